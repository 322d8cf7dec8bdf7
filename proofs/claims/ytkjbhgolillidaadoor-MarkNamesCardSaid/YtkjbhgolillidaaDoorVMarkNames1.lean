-- Laid by this session's own program (wip/tools/fold.py): this session's texts, cut to what the claim names and put together; Lean checks it.
import Derived.Test.YtkjbhgolillidaaDoorUMarkNames1
import Derived.Test.YtkjbhgolillidaaDoorXMarkNames1
import Derived.Test.YtkjbhgolillidaaDoorProg
import Derived.Below
import Derived.Deep.Draws
import Derived.Deep.AppendLies
import Derived.Maps.AppendAt
import Derived.OwnWalk
import Derived.Laws.BytesArg
import Derived.Laws.MakeOwn
import Derived.Laws.OwnMore
import Derived.Deep.OwnRows
import Derived.Tactics
import Derived.Lib.ConvBytes
import Derived.Laws.Slices
import Derived.WalkKit
import Derived.KernelRfl
import Derived.RowKit3
import Derived.Deep.LoopGhost
import Derived.Deep.QuietTactic
import Derived.BigQuiet
import Derived.WideLaws
import Derived.Deep.DeepCutAuto
import Derived.Deep.CutBlock
import Derived.Deep.RegionHeld3
import Derived.Laws.Rows
import Derived.Lib.AppendStr
import Derived.ArgAppend
import Derived.Laws.IdiomCopy
import Derived.OrdersHeld
import Derived.Laws.BitsLemmas
import Derived.RowKit
import Derived.Deep.RegionLaw
import Derived.Maps.Own
import Derived.Maps.OwnOps
import Derived.Maps.OwnSet
import Derived.Maps.Views
import Derived.Shelf.SlIter.Sorted
namespace Go.Proofs.YtkjbhgolillidaaDoor.EMarkNames
open Go.RowKit Go.Proofs.YtkjbhgolillidaaDoorW.PrintWords Go.Proofs.YtkjbhgolillidaaDoorW.PrintLast Go.Proofs.YtkjbhgolillidaaDoorW.PrintMore
attribute [local go_sem] M.run_leq M.run_gtr M.run_geq max2_int min2_int max_two min_two max_three min_three max_four min_four
set_option linter.unusedVariables false
set_option linter.unusedSimpArgs false
def errW : Option Int → Value
  | none => .nilIface
  | some c => .iface 0 (.int .i64 c)
theorem errW_none : errW none = .nilIface := rfl
theorem errW_some (c : Int) : errW (some c) = .iface 0 (.int .i64 c) := rfl
theorem info3 : (Tryd.prog.info? 3).map (fun i => (i.zero, i.size, i.bytes)) = some (some (.int .i64 0), 1, 8) := by kernel_rfl
theorem info5 : (Tryd.prog.info? 5).map (fun i => (i.zero, i.size, i.bytes)) = some (some (.int .u8 0), 1, 1) := by kernel_rfl
theorem info9 : (Tryd.prog.info? 9).map (fun i => (i.zero, i.size, i.bytes)) = some (some (.string ⟨#[]⟩), 1, 16) := by kernel_rfl
theorem info43 : (Tryd.prog.info? 43).map (fun i => (i.zero, i.size, i.bytes)) = some (some (.agg #[(.string ⟨#[]⟩), (.string ⟨#[]⟩)]), 2, 32) := by kernel_rfl
structure S43 where
  f0 : ByteArray
  f1 : ByteArray
def z43 : S43 := ⟨(⟨#[]⟩ : ByteArray), (⟨#[]⟩ : ByteArray)⟩
def k43 : Kd S43 := Kd.iso (Kd.pair Kd.string Kd.string) (fun x : S43 => (x.f0, x.f1))
theorem k43_open {w : World} {x : S43} {cs : List Value} (h : k43.K w x cs) : cs = [.string x.f0, .string x.f1] := by
 obtain ⟨_, _, rfl, rfl, rfl⟩ := h
 exact rfl
theorem k43_mkM (w : World) (base : Nat) (ok : Nat → Prop) (x : S43)  : k43.M w base ok x [.string x.f0, .string x.f1] := ⟨[.string x.f0], [.string x.f1], rfl, rfl, rfl⟩
def rd_T43 (xs : List S43) (i : Int) : S43 := xs.getD i.toNat z43
theorem at_T43 {w : World} {A : Option Addr} {n : Nat} {xs : List S43} (h : Kd.C k43 w A n xs) (i : Int) (h0 : 0 ≤ i) (h1 : i < n) : ∃ ad , A = some ad ∧ w.cell? (ad.add (i.toNat * 2)) = some (.string (rd_T43 xs i).f0) ∧ w.cell? ⟨(ad.add (i.toNat * 2)).block, (ad.add (i.toNat * 2)).off + 1, none⟩ = some (.string (rd_T43 xs i).f1) := by
 obtain ⟨ad, c, e, _, hK, hc0⟩ := Kd.C_get h z43 i h0 h1
 have hc : ∀ j u, c[j]? = some u → w.cell? (ad.add (i.toNat * 2 + j)) = some u := hc0
 obtain rfl := k43_open hK
 exact ⟨ad, e, hc 0 _ rfl, by rw [← add_field _ _ 1 (by omega)]; exact hc 1 _ rfl⟩
set_option maxHeartbeats 8000000 in
set_option maxRecDepth 100000 in
theorem shelf_New.calls (w : World) :
    Calls Tryd.prog 8 #[] w fun e w' => ∃ g B D, e = .returned (.pointer (some ⟨g, 0, none⟩)) ∧ M.shelf Tryd.prog w.heap.size w' g B D (.slice none 0 0) (.slice none 0 0) [] ByteArray.empty ByteArray.empty ∧ Below w.heap.size w w' := by
 have hmm := @run_makeMap Tryd.prog
 go_enter Tryd.func8, Tryd.ntmps8
 go_wp2
 go_ret
 have hz : (w.alloc (.map #[] 0)).heap.size = w.heap.size + 1 := by simp
 have hb := heap_alloc_new (w.alloc (.map #[] 0)) (.cells #[.map (some w.heap.size), .slice none 0 0, .slice none 0 0, .string ByteArray.empty, .string ByteArray.empty] 62)
 rw [hz] at hb
 refine ⟨w.heap.size + 1, w.heap.size, .map [], rfl, ⟨hb, (World.ownsMap_made w _ _ _).alloc _, M.told_nil, ⟨rfl, .inl ⟨rfl, rfl⟩⟩, ⟨rfl, .inl ⟨rfl, rfl⟩⟩, ?_, Nat.le_refl _, ?_, ?_, ?_, ?_, ?_, .inl rfl, List.nodup_nil⟩, below_alloc (below_alloc (Below.refl _ _) _) _⟩
 ·omega
 ·omega
 ·simp [Value.ownBlock]
 ·simp [Value.ownBlock]
 ·simp [Value.ownBlock]
 ·simp [Value.ownBlock]
theorem shelf_New.any (w : World) :
    Calls Tryd.prog 8 #[] w fun e w' => ∃ g F, e = .returned (.pointer (some ⟨g, 0, none⟩)) ∧ M.Sh Tryd.prog w.heap.size w' g F M.SS.none_ ∧ Below w.heap.size w w' := by
 refine (shelf_New.calls w).mono ?_
 rintro e w' ⟨g, B, D, rfl, hs, hb⟩
 exact ⟨g, M.feet g B (.slice none 0 0) (.slice none 0 0), rfl, ⟨B, D, _, _, hs, fun _ hk => hk, fun k hk => ⟨M.feet_ge hs k hk, M.feet_lt hs k hk⟩⟩, hb⟩
theorem shelf_Shelf_there.law : Maps.Keyed Tryd.prog 9 := Maps.string_keyed Tryd.underlying9
theorem shelf_Shelf_there.zero_ (w : World) : (zeroValue 3).run Tryd.prog w = .ok (.int .i64 0) w := by kernel_rfl
set_option maxRecDepth 100000 in
theorem shelf_Shelf_there.calls (base g B : Nat) (D : DataW Unit) (vt vn : Value) (ts : List ByteArray) (a b : ByteArray) (w : World) (hS : M.shelf Tryd.prog base w g B D vt vn ts a b) :
    Calls Tryd.prog 18 #[.pointer (some ⟨g, 0, none⟩)] w fun e w' => e = .returned (.bool true) ∧ w = w' := by
 have c0 : w.cell? ⟨g, 0, none⟩ = some (.map (some B)) := M.blk_cell hS.blk 0 _ rfl
 have hne : ∀ W : World, (binOp .neq 59 (.map (some B)) (.map none)).run Tryd.prog W = .ok (.bool true) W := fun W => run_neq_map_nil (P := Tryd.prog) (w := W) 59 9 3 (some B) Tryd.underlying59
 clear hS
 go_enter Tryd.func18, Tryd.ntmps18
 go_wp2
 go_ret
 exact ⟨rfl, rfl⟩
set_option maxHeartbeats 8000000 in
set_option maxRecDepth 100000 in
theorem sha_New.calls (w : World) (hT : M.stab w) :
    Calls Tryd.prog 38 #[] w fun e w' => ∃ g, e = .returned (.pointer (some ⟨g, 0, none⟩)) ∧ M.hash w' g 108 0x6a09e667 0xbb67ae85 0x3c6ef372 0xa54ff53a 0x510e527f 0x9b05688c 0x1f83d9ab 0x5be0cd19 (.slice none 0 0) 0 ∧ Below w.heap.size w w' ∧ w.heap.size ≤ g := by
 have c0 := hT.1 0 (by decide)
 have c1 := hT.1 1 (by decide)
 have c2 := hT.1 2 (by decide)
 have c3 := hT.1 3 (by decide)
 have c4 := hT.1 4 (by decide)
 have c5 := hT.1 5 (by decide)
 have c6 := hT.1 6 (by decide)
 have c7 := hT.1 7 (by decide)
 simp only [M.shaH, List.getD_cons_zero, List.getD_cons_succ] at c0 c1 c2 c3 c4 c5 c6 c7
 clear hT
 have a82 := Tryd.isAgg82
 have z82 := Tryd.sizeOf82
 go_enter Tryd.func38, Tryd.ntmps38
 go_wp2
 go_ret
 exact ⟨w.heap.size, rfl, heap_alloc_new w _, below_alloc (Below.refl _ _) _, Nat.le_refl _⟩
theorem sha_Hash_there.calls (g x0 x1 x2 x3 x4 x5 x6 x7 : Nat) (v : Value) (n : Int) (w : World) (hH : M.hash w g 108 x0 x1 x2 x3 x4 x5 x6 x7 v n) :
    Calls Tryd.prog 56 #[.pointer (some ⟨g, 0, none⟩)] w fun e w' => e = .returned (.bool true) ∧ w = w' := by
 have c10 := M.blk_cell hH 10 _ rfl
 clear hH
 go_enter Tryd.func56, Tryd.ntmps56
 go_wp2
 go_ret
 exact ⟨rfl, rfl⟩
def bits_RotateLeft32_p.f (a0 : Int) (a1 : Int) : Option (Int) := if 0 ≤ (Go.bits .and .u64 (IntKind.u64.wrap (a1)) 31) then (if 0 ≤ (IntKind.u64.wrap (32 - (Go.bits .and .u64 (IntKind.u64.wrap (a1)) 31))) then (some (Go.bits .or .u32 (shl .u32 a0 (Go.bits .and .u64 (IntKind.u64.wrap (a1)) 31)) (shr .u32 a0 (IntKind.u64.wrap (32 - (Go.bits .and .u64 (IntKind.u64.wrap (a1)) 31)))))) else (none)) else (none)
set_option maxHeartbeats 8000000 in
set_option maxRecDepth 100000 in
theorem bits_RotateLeft32_p.calls (a0 : Int) (a1 : Int) (r : Int) (w : World) (h : bits_RotateLeft32_p.f a0 a1 = some r) :
    Calls Tryd.prog 64 #[.int .u32 a0, .int .i64 a1] w fun e w' => e = .returned (.int .u32 r) ∧ Drawn0 w w' := by
 have H : (if 0 ≤ (Go.bits .and .u64 (IntKind.u64.wrap (a1)) 31) then (if 0 ≤ (IntKind.u64.wrap (32 - (Go.bits .and .u64 (IntKind.u64.wrap (a1)) 31))) then (some (Go.bits .or .u32 (shl .u32 a0 (Go.bits .and .u64 (IntKind.u64.wrap (a1)) 31)) (shr .u32 a0 (IntKind.u64.wrap (32 - (Go.bits .and .u64 (IntKind.u64.wrap (a1)) 31)))))) else (none)) else (none)) = some r := h
 clear h
 obtain ⟨ji3, hji3⟩ : ∃ j_ : Int, (Go.bits .and .u64 (IntKind.u64.wrap (a1)) 31) = j_ := ⟨_, rfl⟩
 replace H : (if 0 ≤ (ji3) then (if 0 ≤ (IntKind.u64.wrap (32 - (ji3))) then (some (Go.bits .or .u32 (shl .u32 a0 (ji3)) (shr .u32 a0 (IntKind.u64.wrap (32 - (ji3)))))) else (none)) else (none)) = some r := by first | (rw [hji3] at H; exact H) | (simp only [hji3] at H ⊢; exact H)
 by_cases c4 : 0 ≤ (ji3)
 ·rw [if_pos c4] at H
  have c4b0 := eq_true c4
  have c4b1 := decide_eq_true c4
  clear c4
  obtain ⟨ji5, hji5⟩ : ∃ j_ : Int, (shl .u32 a0 (ji3)) = j_ := ⟨_, rfl⟩
  replace H : (if 0 ≤ (IntKind.u64.wrap (32 - (ji3))) then (some (Go.bits .or .u32 (ji5) (shr .u32 a0 (IntKind.u64.wrap (32 - (ji3)))))) else (none)) = some r := by first | (rw [hji5] at H; exact H) | (simp only [hji5] at H ⊢; exact H)
  have hji5_ : (IntKind.u32.wrap (a0 * 2 ^ min (ji3).toNat 32)) = ji5 := hji5
  have hji5z : (ji3) ≤ 32 → (IntKind.u32.wrap (a0 * 2 ^ (ji3).toNat)) = ji5 := shl_small hji5
  obtain ⟨ji6, hji6⟩ : ∃ j_ : Int, (IntKind.u64.wrap (32 - (ji3))) = j_ := ⟨_, rfl⟩
  replace H : (if 0 ≤ (ji6) then (some (Go.bits .or .u32 (ji5) (shr .u32 a0 (ji6)))) else (none)) = some r := by first | (rw [hji6] at H; exact H) | (simp only [hji6] at H ⊢; exact H)
  by_cases c7 : 0 ≤ (ji6)
  ·rw [if_pos c7] at H
   have c7b0 := eq_true c7
   have c7b1 := decide_eq_true c7
   clear c7
   obtain ⟨ji8, hji8⟩ : ∃ j_ : Int, (shr .u32 a0 (ji6)) = j_ := ⟨_, rfl⟩
   replace H : (some (Go.bits .or .u32 (ji5) (ji8))) = some r := by first | (rw [hji8] at H; exact H) | (simp only [hji8] at H ⊢; exact H)
   have hji8_ : (a0 / 2 ^ min (ji6).toNat 32) = ji8 := hji8
   have hji8z : (ji6) ≤ 32 → (a0 / 2 ^ (ji6).toNat) = ji8 := shr_small hji8
   obtain rfl := Option.some.inj H
   go_enter Tryd.func64, Tryd.ntmps64
   go_wp2
   go_ret
   exact ⟨by first | rfl | (simp; done) | (simp only [← hji3, ← hji5, ← hji6, ← hji8] <;> (first | rfl | simp)) | (simp [*]; done), by repeat (first | exact Drawn0.refl _ | apply Drawn0.step)⟩
  ·exact M.nf c7 H
 ·exact M.nf c4 H
def bits_RotateLeft32.f (x k : Int) : Option Int := if 0 ≤ x ∧ x < 4294967296 ∧ -32 < k ∧ k < 0 then some ((M.rotr x.toNat (-k).toNat : Nat) : Int) else none
theorem bits_RotateLeft32.ev (x k r : Int) (h : bits_RotateLeft32.f x k = some r) : bits_RotateLeft32_p.f x k = some r := by
 unfold bits_RotateLeft32.f at h
 split at h
 case isFalse => cases h
 case isTrue hh =>
  obtain ⟨h0, h1, h2, h3⟩ := hh
  obtain ⟨y, rfl⟩ := Int.eq_ofNat_of_zero_le h0
  obtain ⟨n, hn⟩ := Int.eq_ofNat_of_zero_le (show 0 ≤ -k by omega)
  obtain rfl : k = -(n : Int) := by omega
  have hw : IntKind.u64.wrap (-(n : Int)) = ((18446744073709551616 - n : Nat) : Int) := by rw [M.u64_wrap]; omega
  have ha : Go.bits .and .u64 ((18446744073709551616 - n : Nat) : Int) 31 = ((32 - n : Nat) : Int) := by
   have := Go.bits_mask .u64 64 (by decide) (fun n h0 h1 => by rw [M.u64_wrap]; omega) 5 (by decide) (((18446744073709551616 - n : Nat) : Int)) (by omega) (by omega)
   rw [show ((2 : Int) ^ 5 - 1) = 31 from rfl, show ((2 : Int) ^ 5) = 32 from rfl] at this
   rw [this]; omega
  have hs : IntKind.u64.wrap (32 - ((32 - n : Nat) : Int)) = (n : Int) := by rw [M.u64_wrap]; omega
  rw [Int.neg_neg, Int.toNat_natCast, Int.toNat_natCast] at h
  rw [← h]
  unfold bits_RotateLeft32_p.f
  rw [hw, ha, hs, if_pos (by omega), if_pos (by omega)]
  have e1 : shl .u32 (y : Int) ((32 - n : Nat) : Int) = ((y * 2 ^ (32 - n) % 4294967296 : Nat) : Int) := by
   unfold shl
   rw [Int.toNat_natCast, show min (32 - n) IntKind.u32.bits = 32 - n from by show min (32 - n) 32 = 32 - n; omega, M.u32_wrap]
   rw [Int.natCast_emod, Int.natCast_mul, Int.natCast_pow]; rfl
  have e2 : shr .u32 (y : Int) (n : Int) = ((y / 2 ^ n : Nat) : Int) := by
   unfold shr
   rw [Int.toNat_natCast, show min n IntKind.u32.bits = n from by show min n 32 = n; omega]
   rw [Int.natCast_ediv, Int.natCast_pow]; rfl
  rw [e1, e2, M.or32 (Nat.mod_lt _ (by decide)) (Nat.lt_of_le_of_lt (Nat.div_le_self _ _) (by omega))]
  rfl
theorem bits_RotateLeft32.calls (a0 : Int) (a1 : Int) (r : Int) (w : World) (h : bits_RotateLeft32.f a0 a1 = some r) :
    Calls Tryd.prog 64 #[.int .u32 a0, .int .i64 a1] w fun e w' => e = .returned (.int .u32 r) ∧ Drawn0 w w' := by
 exact bits_RotateLeft32_p.calls (w := w) (h := bits_RotateLeft32.ev _ _ _ h)
theorem sha_spread.i90 : (Tryd.prog.info? 116).map (·.size) = some 64 := by kernel_rfl
def sha_spread.mem (bl : List UInt8) (i : Nat) : List Int := M.nums32 (M.sched bl i) ++ List.replicate (64 - i) 0
theorem sha_spread.mem_len (bl : List UInt8) (i : Nat) (h : i ≤ 64) : (sha_spread.mem bl i).length = 64 := by
 unfold sha_spread.mem M.nums32
 rw [List.length_append, List.length_map, M.sched_len, List.length_replicate]; omega
theorem sha_spread.mem_get (bl : List UInt8) (i j : Nat) (h : j < i) : (sha_spread.mem bl i).getD j 0 = ((M.sched bl i).getD j 0 : Nat) := by
 unfold sha_spread.mem M.nums32
 have hl := M.sched_len bl i
 simp only [List.getD_eq_getElem?_getD]
 rw [List.getElem?_append_left (by rw [List.length_map, hl]; exact h), List.getElem?_map, List.getElem?_eq_getElem (by omega)]
 rfl
theorem sha_spread.mem_set (bl : List UInt8) (i : Nat) (h : i < 64) (v : Nat) (hv : M.sched bl (i + 1) = M.sched bl i ++ [v]) : (sha_spread.mem bl i).set i (v : Int) = sha_spread.mem bl (i + 1) := by
 unfold sha_spread.mem M.nums32
 rw [hv, List.map_append, List.set_append_right _ _ (by rw [List.length_map, M.sched_len]; exact Nat.le_refl _), List.length_map, M.sched_len, Nat.sub_self]
 obtain ⟨m, hm⟩ : ∃ m, 64 - i = m + 1 := ⟨63 - i, by omega⟩
 rw [hm, List.replicate_succ, show 64 - (i + 1) = m from by omega]
 simp
theorem sha_spread.mem_zero (bl : List UInt8) : sha_spread.mem bl 0 = List.replicate 64 0 := rfl
theorem sha_spread.mem_all (bl : List UInt8) : sha_spread.mem bl 64 = M.nums32 (M.sched bl 64) := by unfold sha_spread.mem; simp
set_option maxHeartbeats 8000000 in
set_option maxRecDepth 100000 in
theorem sha_spread.calls (ad : Addr) (c0 : Nat) (bl : List UInt8) (w : World) (hb : bl.length = 64) (hr0 : Kd.C (Kd.int .u8) w (some ad) 64 (bl.map fun x => (x.toNat : Int))) (hc0 : 64 ≤ c0) :
    Calls Tryd.prog 63 #[.slice (some ad) 64 c0] w fun e w' => e = .returned (.agg (nums .u32 (M.nums32 (M.sched bl 64))).toArray) ∧ Below w.heap.size w w' := by
 have HR := Aside0.mk hr0
 have HL := Aside0.mk hb
 have HZ := Aside0.mk (sha_spread.mem_zero bl)
 clear hr0 hb
 go_enter Tryd.func63, Tryd.ntmps63
 go_wp2
 go_loopw [9] (fun v9 wr => ∃ i : Nat, v9 = .int .i64 (i : Int) ∧ i ≤ 64 ∧ Aside0 (M.arr wr w.heap.size 116 .u32 (List.replicate 64 0)) ∧ Aside0 (M.arr wr (w.heap.size + 1) 116 .u32 (sha_spread.mem bl i)) ∧ Aside0 (Below w.heap.size w wr)) (fun v9 _ => 64 - (intOf v9).toNat)
 case atStart =>
  refine ⟨0, rfl, Nat.zero_le _, ⟨M.arr_alloc (M.arr_new w 116 .u32 (List.replicate 64 0)) _⟩, ⟨?_⟩, ⟨below_alloc (below_alloc (Below.refl _ _) _) _⟩⟩
  rw [HZ.out]
  have := M.arr_new (w.alloc (.cells (nums .u32 (List.replicate 64 0)).toArray 116)) 116 .u32 (List.replicate 64 0)
  have e : (w.alloc (.cells (nums .u32 (List.replicate 64 0)).toArray 116)).heap.size = w.heap.size + 1 := by simp
  rw [e] at this
  exact this
 case round =>
  obtain ⟨i, rfl, hi, HA1, HA2, HB⟩ := hrel
  by_cases hlt : i < 64
  ·have hlen := sha_spread.mem_len bl i hi
   have hf := M.arr_free HA2.out i
   have hci := M.arr_cell HA2.out i (by omega)
   have g0 : (0 : Int) ≤ (i : Int) := by omega
   have g1 : (i : Int) < 64 := by omega
   by_cases h16 : i < 16
   ·have hbt : ∀ k : Nat, k < 4 → wr.cell? (ad.add (4 * i + k)) = some (.int .u8 ((bl.getD (4 * i + k) 0).toNat : Int)) := by
     intro k hk
     obtain ⟨ad', e', hx⟩ := Kd.at_int HR.out ((4 * i + k : Nat) : Int) (by omega) (by omega)
     cases e'
     rw [Int.toNat_natCast] at hx
     have hrd : rd (bl.map fun x => (x.toNat : Int)) ((4 * i + k : Nat) : Int) = ((bl.getD (4 * i + k) 0).toNat : Int) := by
      have hl := HL.out
      unfold rd
      rw [Int.toNat_natCast]
      simp [List.getD, show 4 * i + k < bl.length by omega]
     rw [hrd] at hx
     exact (HB.out.cell (World.block_lt_of_cell? w _ hx)).trans hx
    have c0_ := hbt 0 (by omega)
    have c1_ := hbt 1 (by omega)
    have c2_ := hbt 2 (by omega)
    have c3_ := hbt 3 (by omega)
    have l0 := (bl.getD (4 * i + 0) 0).toNat_lt
    have l1 := (bl.getD (4 * i + 1) 0).toNat_lt
    have l2 := (bl.getD (4 * i + 2) 0).toNat_lt
    have l3 := (bl.getD (4 * i + 3) 0).toNat_lt
    have HN := Aside0.mk (sha_spread.mem_set bl i hlt (M.word bl i) (by rw [M.sched, if_pos h16]))
    have HWd := Aside0.mk (show M.word bl i = (bl.getD (4 * i + 0) 0).toNat * 16777216 + (bl.getD (4 * i + 1) 0).toNat * 65536 + (bl.getD (4 * i + 2) 0).toNat * 256 + (bl.getD (4 * i + 3) 0).toNat from rfl)
    generalize (bl.getD (4 * i + 0) 0).toNat = b0 at c0_ l0 HWd
    generalize (bl.getD (4 * i + 1) 0).toNat = b1 at c1_ l1 HWd
    generalize (bl.getD (4 * i + 2) 0).toNat = b2 at c2_ l2 HWd
    generalize (bl.getD (4 * i + 3) 0).toNat = b3 at c3_ l3 HWd
    obtain ⟨j0, hj0⟩ : ∃ j, j = 4 * i + 0 := ⟨_, rfl⟩
    obtain ⟨j1, hj1⟩ : ∃ j, j = 4 * i + 1 := ⟨_, rfl⟩
    obtain ⟨j2, hj2⟩ : ∃ j, j = 4 * i + 2 := ⟨_, rfl⟩
    obtain ⟨j3, hj3⟩ : ∃ j, j = 4 * i + 3 := ⟨_, rfl⟩
    rw [← hj0] at c0_
    rw [← hj1] at c1_
    rw [← hj2] at c2_
    rw [← hj3] at c3_
    have w0 : IntKind.i64.wrap (4 * (i : Int)) = (j0 : Int) := by simp [IntKind.wrap, IntKind.bits, IntKind.signed]; omega
    have w1 : IntKind.i64.wrap ((j0 : Int) + 1) = (j1 : Int) := by simp [IntKind.wrap, IntKind.bits, IntKind.signed]; omega
    have w2 : IntKind.i64.wrap ((j0 : Int) + 2) = (j2 : Int) := by simp [IntKind.wrap, IntKind.bits, IntKind.signed]; omega
    have w3 : IntKind.i64.wrap ((j0 : Int) + 3) = (j3 : Int) := by simp [IntKind.wrap, IntKind.bits, IntKind.signed]; omega
    have i0 : (0 : Int) ≤ (j0 : Int) ∧ (j0 : Int) < 64 := by omega
    have i1 : (0 : Int) ≤ (j1 : Int) ∧ (j1 : Int) < 64 := by omega
    have i2 : (0 : Int) ≤ (j2 : Int) ∧ (j2 : Int) < 64 := by omega
    have i3 : (0 : Int) ≤ (j3 : Int) ∧ (j3 : Int) < 64 := by omega
    have u0 : IntKind.u32.wrap (b0 : Int) = (b0 : Int) := by rw [M.u32_wrap]; omega
    have u1 : IntKind.u32.wrap (b1 : Int) = (b1 : Int) := by rw [M.u32_wrap]; omega
    have u2 : IntKind.u32.wrap (b2 : Int) = (b2 : Int) := by rw [M.u32_wrap]; omega
    have u3 : IntKind.u32.wrap (b3 : Int) = (b3 : Int) := by rw [M.u32_wrap]; omega
    clear hj0 hj1 hj2 hj3
    clear hbt
    go_wp2
    go_region
    all_goals
     (try go_wp2)
     refine ⟨⟨i + 1, by go_num, by omega, ⟨M.arr_drew (M.arr_far HA1.out _ (by show w.heap.size ≠ w.heap.size + 1; omega) _)⟩, ⟨?_⟩, ⟨below_drew1 (HB.out.setCell (by show w.heap.size ≤ w.heap.size + 1; omega) _)⟩⟩, by simp [intOf]; omega⟩
     rw [M.word_bits l0 l1 l2 l3, ← HWd.out, ← HN.out]
     exact M.arr_drew (M.arr_set HA2.out i (M.word bl i : Int))
   ·have hge : ¬ (i : Int) < 16 := by omega
    have HN := Aside0.mk (sha_spread.mem_set bl i hlt _ (by rw [M.sched, if_neg h16]))
    have a16 := M.arr_cell HA2.out (i - 16) (by omega)
    have a15 := M.arr_cell HA2.out (i - 15) (by omega)
    have a7 := M.arr_cell HA2.out (i - 7) (by omega)
    have a2 := M.arr_cell HA2.out (i - 2) (by omega)
    rw [sha_spread.mem_get bl i _ (by omega)] at a16 a15 a7 a2
    have b16 := M.sched_lt bl i (i - 16)
    have b15 := M.sched_lt bl i (i - 15)
    have b7 := M.sched_lt bl i (i - 7)
    have b2 := M.sched_lt bl i (i - 2)
    generalize (M.sched bl i).getD (i - 16) 0 = x16 at HN a16 b16
    generalize (M.sched bl i).getD (i - 15) 0 = x15 at HN a15 b15
    generalize (M.sched bl i).getD (i - 7) 0 = x7 at HN a7 b7
    generalize (M.sched bl i).getD (i - 2) 0 = x2 at HN a2 b2
    obtain ⟨j16, hj16⟩ : ∃ j, j = i - 16 := ⟨_, rfl⟩
    obtain ⟨j15, hj15⟩ : ∃ j, j = i - 15 := ⟨_, rfl⟩
    obtain ⟨j7, hj7⟩ : ∃ j, j = i - 7 := ⟨_, rfl⟩
    obtain ⟨j2, hj2⟩ : ∃ j, j = i - 2 := ⟨_, rfl⟩
    rw [← hj16] at a16
    rw [← hj15] at a15
    rw [← hj7] at a7
    rw [← hj2] at a2
    have w16 : IntKind.i64.wrap ((i : Int) - 16) = (j16 : Int) := by simp [IntKind.wrap, IntKind.bits, IntKind.signed]; omega
    have w15 : IntKind.i64.wrap ((i : Int) - 15) = (j15 : Int) := by simp [IntKind.wrap, IntKind.bits, IntKind.signed]; omega
    have w7 : IntKind.i64.wrap ((i : Int) - 7) = (j7 : Int) := by simp [IntKind.wrap, IntKind.bits, IntKind.signed]; omega
    have w2 : IntKind.i64.wrap ((i : Int) - 2) = (j2 : Int) := by simp [IntKind.wrap, IntKind.bits, IntKind.signed]; omega
    have i16 : (0 : Int) ≤ (j16 : Int) ∧ (j16 : Int) < 64 := by omega
    have i15 : (0 : Int) ≤ (j15 : Int) ∧ (j15 : Int) < 64 := by omega
    have i7 : (0 : Int) ≤ (j7 : Int) ∧ (j7 : Int) < 64 := by omega
    have i2 : (0 : Int) ≤ (j2 : Int) ∧ (j2 : Int) < 64 := by omega
    have r1 := M.rotr_lt (n := 7) b15
    have r2 := M.rotr_lt (n := 18) b15
    have r3 := M.rotr_lt (n := 17) b2
    have r4 := M.rotr_lt (n := 19) b2
    have H1 : Aside0 (bits_RotateLeft32.f (x15 : Int) (-7) = some ((M.rotr x15 7 : Nat) : Int)) := ⟨by unfold bits_RotateLeft32.f; rw [if_pos (by omega)]; rfl⟩
    have H2 : Aside0 (bits_RotateLeft32.f (x15 : Int) (-18) = some ((M.rotr x15 18 : Nat) : Int)) := ⟨by unfold bits_RotateLeft32.f; rw [if_pos (by omega)]; rfl⟩
    have H3 : Aside0 (bits_RotateLeft32.f (x2 : Int) (-17) = some ((M.rotr x2 17 : Nat) : Int)) := ⟨by unfold bits_RotateLeft32.f; rw [if_pos (by omega)]; rfl⟩
    have H4 : Aside0 (bits_RotateLeft32.f (x2 : Int) (-19) = some ((M.rotr x2 19 : Nat) : Int)) := ⟨by unfold bits_RotateLeft32.f; rw [if_pos (by omega)]; rfl⟩
    have HS0 := Aside0.mk (show M.sg0 x15 = M.rotr x15 7 ^^^ M.rotr x15 18 ^^^ (x15 / 8) from rfl)
    have HS1 := Aside0.mk (show M.sg1 x2 = M.rotr x2 17 ^^^ M.rotr x2 19 ^^^ (x2 / 1024) from rfl)
    generalize M.rotr x15 7 = p1 at r1 H1 HS0
    generalize M.rotr x15 18 = p2 at r2 H2 HS0
    generalize M.rotr x2 17 = p3 at r3 H3 HS1
    generalize M.rotr x2 19 = p4 at r4 H4 HS1
    clear hj16 hj15 hj7 hj2
    have e1 : Go.bits .xor .u32 (Go.bits .xor .u32 (p1 : Int) (p2 : Int)) ((x15 : Int) / 8) = (M.sg0 x15 : Int) := by
     rw [M.xor32 r1 r2, show (x15 : Int) / 8 = ((x15 / 8 : Nat) : Int) from by omega, M.xor32 (M.xor_lt r1 r2) (by omega), HS0.out]
    have e2 : Go.bits .xor .u32 (Go.bits .xor .u32 (p3 : Int) (p4 : Int)) ((x2 : Int) / 1024) = (M.sg1 x2 : Int) := by
     rw [M.xor32 r3 r4, show (x2 : Int) / 1024 = ((x2 / 1024 : Nat) : Int) from by omega, M.xor32 (M.xor_lt r3 r4) (by omega), HS1.out]
    go_wp2
    go_region
    all_goals
     go_wp2_with (first | (go_at_call 64; (with_reducible refine (bits_RotateLeft32.calls (x15 : Int) (-7) _ _ H1.out).mono ?_); rintro e w1 ⟨rfl, ⟨n1, rfl⟩⟩) | (go_at_call 64; (with_reducible refine (bits_RotateLeft32.calls (x15 : Int) (-18) _ _ H2.out).mono ?_); rintro e w1 ⟨rfl, ⟨n2, rfl⟩⟩) | (go_at_call 64; (with_reducible refine (bits_RotateLeft32.calls (x2 : Int) (-17) _ _ H3.out).mono ?_); rintro e w1 ⟨rfl, ⟨n3, rfl⟩⟩) | (go_at_call 64; (with_reducible refine (bits_RotateLeft32.calls (x2 : Int) (-19) _ _ H4.out).mono ?_); rintro e w1 ⟨rfl, ⟨n4, rfl⟩⟩))
     go_region
     all_goals
      (try go_wp2)
      refine ⟨⟨i + 1, by go_num, by omega, ⟨M.arr_far (M.arr_drewN HA1.out _) _ (by show w.heap.size ≠ w.heap.size + 1; omega) _⟩, ⟨?_⟩, ⟨(pw_below_drewN HB.out _).setCell (by show w.heap.size ≤ w.heap.size + 1; omega) _⟩⟩, by simp [intOf]; omega⟩
      rw [← HN.out]
      exact M.arr_set (M.arr_drewN HA2.out _) i (((x16 + M.sg0 x15 + x7 + M.sg1 x2) % 4294967296 : Nat) : Int)
  ·obtain rfl : i = 64 := by omega
   have HM := Aside0.mk (sha_spread.mem_len bl 64 hi)
   have HE := Aside0.mk (sha_spread.mem_all bl)
   go_wp2_with (first | ((with_reducible refine gate_dst (N := 89) rfl ?_); refine M.wp_arr_load rfl 116 _ rfl (w.heap.size + 1) 116 .u32 (sha_spread.mem bl 64) rfl HA2.out _ Tryd.underlying116 rfl (by rw [HM.out]; exact sha_spread.i90) ?_) | ((with_reducible refine gate_store (t := 116) (p := 2) (v := .tmp 89) rfl ?_); refine M.wp_arr_store rfl 116 _ _ rfl w.heap.size 116 .u32 (List.replicate 64 0) (sha_spread.mem bl 64) rfl rfl HA1.out HM.out sha_spread.i90 ?_; intro w2 hA2 hF2 hB2 hz2; have HA3 := Aside0.mk hA2; have HB3 := Aside0.mk (hB2 _ _ (Nat.le_refl _) HB.out); clear hA2 hF2 hB2 hz2))
   have hload := M.arr_loadVar (P := Tryd.prog) HA3.out 116 _ Tryd.underlying116 rfl (by rw [HM.out]; exact sha_spread.i90)
   refine bodyPost_ret (v := .agg (nums .u32 (sha_spread.mem bl 64)).toArray) (by exact M.results_arr1 (fn := Tryd.f63) (t := 2) (ty := 116) (by rfl) _ (by rfl) hload) rfl ⟨?_, HB3.out⟩
   rw [HE.out]
theorem sha_turned.i82 : (Tryd.prog.info? 105).map (·.size) = some 8 := by kernel_rfl
theorem sha_turned.i90 : (Tryd.prog.info? 116).map (·.size) = some 64 := by kernel_rfl
theorem sha_turned.flip {x : Nat} (h : x < 4294967296) : 4294967295 ^^^ x = 4294967295 - x := by
 apply Nat.eq_of_testBit_eq
 intro i
 rw [Nat.testBit_xor, show 4294967295 = 2 ^ 32 - 1 from rfl, Nat.testBit_two_pow_sub_one, show 2 ^ 32 - 1 - x = 2 ^ 32 - (x + 1) from by omega, Nat.testBit_two_pow_sub_succ (by omega)]
 by_cases hi : i < 32
 ·simp [hi]
 ·have : x.testBit i = false := Nat.testBit_lt_two_pow (Nat.lt_of_lt_of_le h (by rw [show 4294967296 = 2 ^ 32 from rfl]; exact Nat.pow_le_pow_right (by decide) (by omega)))
  simp [hi, this]
theorem sha_turned.len8 (s W : List Nat) (hs : s.length = 8) : ∀ n, (M.rnds s W n).length = 8
  | 0 => hs
  | n + 1 => rfl
theorem sha_turned.lt8 (s W : List Nat) (hl : ∀ x ∈ s, x < 4294967296) (hs : s.length = 8) : ∀ n, ∀ x ∈ M.rnds s W n, x < 4294967296
  | 0 => hl
  | n + 1 => by
    have ih := sha_turned.lt8 s W hl hs n
    have g : ∀ j, (M.rnds s W n).getD j 0 < 4294967296 := fun j => by
      rw [List.getD_eq_getElem?_getD]
      cases h : (M.rnds s W n)[j]? with
      | none => decide
      | some y => exact ih y (List.mem_of_getElem? h)
    intro x hx
    rw [M.rnds, M.rnd] at hx
    simp only [List.mem_cons, List.not_mem_nil, or_false] at hx
    rcases hx with h | h | h | h | h | h | h | h <;> rw [h] <;> first | exact g _ | exact Nat.mod_lt _ (by decide)
theorem sha_turned.eight : ∀ (l : List Nat), l.length = 8 → ∃ x0 x1 x2 x3 x4 x5 x6 x7, l = [x0, x1, x2, x3, x4, x5, x6, x7]
  | [x0, x1, x2, x3, x4, x5, x6, x7], _ => ⟨_, _, _, _, _, _, _, _, rfl⟩
theorem sha_turned.q {P : Program} {f : FuncId} {args : Array Value} {w : World} {n : Nat} {v : Value} (h : Calls P f args (w.drewN n) fun e w' => e = .returned v ∧ Drawn0 (w.drewN n) w') : Calls P f args (w.drewN n) fun e w'' => e = .returned v ∧ ∃ m, w'' = w.drewN m :=
  h.mono fun _ _ ⟨he, ⟨⟨m, hm⟩⟩⟩ => ⟨he, n + m, by rw [hm, World.drewN_drewN]⟩
def sha_turned.mem (r s : List Nat) (i : Nat) : List Nat := (List.range 8).map fun j => if j < i then (r.getD j 0 + s.getD j 0) % 4294967296 else r.getD j 0
theorem sha_turned.mem_len (r s : List Nat) (i : Nat) : (M.nums32 (sha_turned.mem r s i)).length = 8 := by simp [M.nums32, sha_turned.mem]
theorem sha_turned.nget (l : List Nat) (j : Nat) : (M.nums32 l).getD j 0 = ((l.getD j 0 : Nat) : Int) := by
 unfold M.nums32
 rw [List.getD_eq_getElem?_getD, List.getD_eq_getElem?_getD, List.getElem?_map]
 cases l[j]? <;> rfl
theorem sha_turned.mem_get (r s : List Nat) (j : Nat) (h : j < 8) : (M.nums32 (sha_turned.mem r s j)).getD j 0 = ((r.getD j 0 : Nat) : Int) := by
 rw [sha_turned.nget]
 unfold sha_turned.mem
 rw [List.getD_eq_getElem?_getD, List.getElem?_map, List.getElem?_range h]
 show (((if j < j then _ else _ : Nat)) : Int) = _
 rw [if_neg (Nat.lt_irrefl _)]
theorem sha_turned.mem_set (r s : List Nat) (j : Nat) (h : j < 8) : (M.nums32 (sha_turned.mem r s j)).set j ((((r.getD j 0 + s.getD j 0) % 4294967296 : Nat)) : Int) = M.nums32 (sha_turned.mem r s (j + 1)) := by
 apply List.ext_getElem
 ·rw [List.length_set, sha_turned.mem_len, sha_turned.mem_len]
 ·intro k h1 h2
  rw [List.getElem_set]
  simp only [M.nums32, sha_turned.mem, List.getElem_map, List.getElem_range]
  by_cases e : j = k
  ·subst e
   rw [if_pos rfl, if_pos (Nat.lt_succ_self _)]
  ·rw [if_neg e]
   by_cases hk : k < j
   ·rw [if_pos hk, if_pos (by omega)]
   ·rw [if_neg hk, if_neg (by omega)]
theorem sha_turned.mem_zero (r s : List Nat) (h : r.length = 8) : sha_turned.mem r s 0 = r := by
 obtain ⟨x0, x1, x2, x3, x4, x5, x6, x7, rfl⟩ := sha_turned.eight r h
 rfl
theorem sha_turned.mem_all (s : List Nat) (bl : List UInt8) : sha_turned.mem (M.rnds s (M.sched bl 64) 64) s 8 = M.turned s bl := by
 unfold sha_turned.mem M.turned
 refine List.map_congr_left fun j hj => ?_
 rw [if_pos (List.mem_range.1 hj)]
set_option maxHeartbeats 8000000 in
set_option maxRecDepth 100000 in
theorem sha_turned.calls (ad : Addr) (c0 : Nat) (s : List Nat) (bl : List UInt8) (w : World) (hs : s.length = 8) (hlt : ∀ x ∈ s, x < 4294967296) (hb : bl.length = 64) (hr0 : Kd.C (Kd.int .u8) w (some ad) 64 (bl.map fun x => (x.toNat : Int))) (hc0 : 64 ≤ c0)
    (hK : ∀ i : Nat, i < 64 → w.cell? ⟨1, i, none⟩ = some (.int .u32 ((M.shaK.getD i 0 : Nat) : Int))) :
    Calls Tryd.prog 57 #[.agg (nums .u32 (M.nums32 s)).toArray, .slice (some ad) 64 c0] w fun e w' => e = .returned (.agg (nums .u32 (M.nums32 (M.turned s bl))).toArray) ∧ Below w.heap.size w w' := by
 have HR := Aside0.mk hr0
 have HL := Aside0.mk hb
 have HS := Aside0.mk hs
 have HLT := Aside0.mk hlt
 have HK := Aside0.mk hK
 have HB := Aside0.mk (Below.refl w.heap.size w)
 have HC := Aside0.mk hc0
 have HN := Aside0.mk (show (M.nums32 (M.sched bl 64)).length = (List.replicate 64 (0 : Int)).length from by unfold M.nums32; rw [List.length_map, M.sched_len, List.length_replicate])
 clear hr0 hb hs hlt hK hc0
 go_enter Tryd.func57, Tryd.ntmps57
 have H8 := Aside0.mk (show (M.nums32 s).length = 8 from by unfold M.nums32; rw [List.length_map]; exact HS.out)
 go_wp2_with (first | ((with_reducible refine gate_dst (N := 2) rfl ?_); refine M.bx 2 105 ((nums .u32 (M.nums32 s)).toArray) ?_; intro gb hg w2 hbox hb; subst hg; have HA2 := Aside0.mk (show M.arr w2 w.heap.size 105 .u32 (M.nums32 s) from hbox); have n1_ := Aside0.mk (below_step HB.out hb); clear HB; have HB := n1_; clear n1_ hb hbox; have L1 := Aside0.mk (M.arr_lt HA2.out)) | (go_at_call 63; (with_reducible refine (sha_spread.calls ad c0 bl _ HL.out ?hr ?hc).mono ?_); (case hr => exact Kd.C_alloc (Kd.C_below HR.out HB.out) _); (case hc => exact HC.out); rintro e w3 ⟨rfl, hb3⟩; have HA3 := Aside0.mk (M.arr_below (M.arr_alloc HA2.out _) hb3); have HZ3 := Aside0.mk (M.arr_below (M.arr_new w2 105 .u32 (List.replicate 8 0)) hb3); have HB3 := Aside0.mk (below_step (below_alloc HB.out _) hb3); clear hb3; have L2 := Aside0.mk (M.arr_lt HZ3.out); clear HB HA2) | ((with_reducible refine gate_store (t := 116) (p := 5) (v := .tmp 14) rfl ?_); refine M.wp_arr_store rfl 116 _ _ rfl w3.heap.size 116 .u32 (List.replicate 64 0) (M.nums32 (M.sched bl 64)) rfl rfl (M.arr_new w3 116 .u32 (List.replicate 64 0)) HN.out sha_turned.i90 ?_; intro w4 hA4 hF4 hB4 hz4; have HW4 := Aside0.mk hA4; have HA4 := Aside0.mk (show M.arr w4 w.heap.size 105 .u32 (M.nums32 s) from (hF4 _ (by have := L1.out; have := L2.out; omega)).trans (M.arr_alloc HA3.out _)); have HZ4 := Aside0.mk (show M.arr w4 w2.heap.size 105 .u32 (List.replicate 8 0) from (hF4 _ (by have := L2.out; omega)).trans (M.arr_alloc HZ3.out _)); have HB4 := Aside0.mk (hB4 _ _ (by have := L1.out; have := L2.out; omega) (below_alloc HB3.out _)); clear hA4 hF4 hB4 hz4 HB3 HA3 HZ3; have L3 := Aside0.mk (M.arr_lt HW4.out)) | ((with_reducible refine gate_dst (N := 15) rfl ?_); refine M.wp_arr_load rfl 105 _ rfl w.heap.size 105 .u32 (M.nums32 s) rfl HA4.out _ Tryd.underlying105 rfl (by rw [H8.out]; exact sha_turned.i82) ?_) | ((with_reducible refine gate_store (t := 105) (p := 6) (v := .tmp 15) rfl ?_); refine M.wp_arr_store rfl 105 _ _ rfl w4.heap.size 105 .u32 (List.replicate 8 0) (M.nums32 s) rfl rfl (M.arr_new w4 105 .u32 (List.replicate 8 0)) H8.out sha_turned.i82 ?_; intro w5 hA5 hF5 hB5 hz5; have HS5 := Aside0.mk hA5; have HA5 := Aside0.mk (show M.arr w5 w.heap.size 105 .u32 (M.nums32 s) from (hF5 _ (by have := L1.out; have := L2.out; have := L3.out; omega)).trans (M.arr_alloc HA4.out _)); have HZ5 := Aside0.mk (show M.arr w5 w2.heap.size 105 .u32 (List.replicate 8 0) from (hF5 _ (by have := L2.out; have := L3.out; omega)).trans (M.arr_alloc HZ4.out _)); have HW5 := Aside0.mk (show M.arr w5 w3.heap.size 116 .u32 (M.nums32 (M.sched bl 64)) from (hF5 _ (by have := L3.out; omega)).trans (M.arr_alloc HW4.out _)); have HB5 := Aside0.mk (hB5 _ _ (by have := L1.out; have := L2.out; have := L3.out; omega) (below_alloc HB4.out _)); clear hA5 hF5 hB5 hz5 HB4 HA4 HZ4 HW4))
 have hg2 : ∃ g, g = w2.heap.size := ⟨_, rfl⟩
 have hg3 : ∃ g, g = w3.heap.size := ⟨_, rfl⟩
 have hg4 : ∃ g, g = w4.heap.size := ⟨_, rfl⟩
 obtain ⟨g2, hg2⟩ := hg2
 obtain ⟨g3, hg3⟩ := hg3
 obtain ⟨g4, hg4⟩ := hg4
 rw [← hg2, ← hg3, ← hg4]
 rw [← hg2] at HZ5 L1 L2
 rw [← hg3] at HW5 L2 L3
 rw [← hg4] at HS5 L3
 clear hg2 hg3 hg4
 go_loopw [16] (fun v16 wr => ∃ i : Nat, v16 = .int .i64 (i : Int) ∧ i ≤ 64 ∧ Aside0 (M.arr wr w.heap.size 105 .u32 (M.nums32 s)) ∧ Aside0 (M.arr wr g2 105 .u32 (List.replicate 8 0)) ∧ Aside0 (M.arr wr g3 116 .u32 (M.nums32 (M.sched bl 64))) ∧ Aside0 (M.arr wr g4 105 .u32 (M.nums32 (M.rnds s (M.sched bl 64) i))) ∧ Aside0 (Below w.heap.size w wr)) (fun v16 _ => 64 - (intOf v16).toNat)
 case atStart => exact ⟨0, rfl, Nat.zero_le _, HA5, HZ5, HW5, HS5, HB5⟩
 case round =>
  clear HA5 HZ5 HW5 HS5 HB5
  obtain ⟨i, rfl, hi, HA, HZ, HW, HSt, HB⟩ := hrel
  by_cases hlt : i < 64
  ·obtain ⟨x0, x1, x2, x3, x4, x5, x6, x7, hx⟩ := sha_turned.eight (M.rnds s (M.sched bl 64) i) (sha_turned.len8 s _ HS.out i)
   have hb8 := sha_turned.lt8 s (M.sched bl 64) HLT.out HS.out i
   have HN1 := Aside0.mk (show M.rnds s (M.sched bl 64) (i + 1) = M.rnd [x0, x1, x2, x3, x4, x5, x6, x7] (M.shaK.getD i 0) ((M.sched bl 64).getD i 0) from by rw [M.rnds, hx])
   rw [hx] at HSt hb8
   have b0 : x0 < 4294967296 := hb8 _ (by simp)
   have b1 : x1 < 4294967296 := hb8 _ (by simp)
   have b2 : x2 < 4294967296 := hb8 _ (by simp)
   have b3 : x3 < 4294967296 := hb8 _ (by simp)
   have b4 : x4 < 4294967296 := hb8 _ (by simp)
   have b5 : x5 < 4294967296 := hb8 _ (by simp)
   have b6 : x6 < 4294967296 := hb8 _ (by simp)
   have b7 : x7 < 4294967296 := hb8 _ (by simp)
   clear hx hb8
   have HS8 := Aside0.mk (show ∀ j, j < 8 → wr.cell? ⟨g4, j, none⟩ = some (.int .u32 ((M.nums32 [x0, x1, x2, x3, x4, x5, x6, x7]).getD j 0)) from fun j hj => M.arr_cell HSt.out j hj)
   have c0_ := HS8.out 0 (by omega)
   have c1_ := HS8.out 1 (by omega)
   have c2_ := HS8.out 2 (by omega)
   have c3_ := HS8.out 3 (by omega)
   have c4_ := HS8.out 4 (by omega)
   have c5_ := HS8.out 5 (by omega)
   have c6_ := HS8.out 6 (by omega)
   have c7_ := HS8.out 7 (by omega)
   simp only [M.nums32, List.map_cons, List.map_nil, List.getD_cons_zero, List.getD_cons_succ] at c0_ c1_ c2_ c3_ c4_ c5_ c6_ c7_
   have cw := M.arr_cell HW.out i (by unfold M.nums32; rw [List.length_map, M.sched_len]; exact hlt)
   have ck := (HB.out.cell (World.block_lt_of_cell? w _ (HK.out i hlt))).trans (HK.out i hlt)
   rw [show (M.nums32 (M.sched bl 64)).getD i 0 = (((M.sched bl 64).getD i 0 : Nat) : Int) from by
    unfold M.nums32
    simp only [List.getD_eq_getElem?_getD, List.getElem?_map, List.getElem?_eq_getElem (show i < (M.sched bl 64).length by rw [M.sched_len]; exact hlt)]
    rfl] at cw
   generalize (M.sched bl 64).getD i 0 = wd at cw HN1
   generalize M.shaK.getD i 0 = kk at ck HN1
   have g0 : (0 : Int) ≤ (i : Int) := by omega
   have g1 : (i : Int) < 64 := by omega
   have H1 : Aside0 (bits_RotateLeft32.f (x4 : Int) (-6) = some ((M.rotr x4 6 : Nat) : Int)) := ⟨by unfold bits_RotateLeft32.f; rw [if_pos (by omega)]; rfl⟩
   have H2 : Aside0 (bits_RotateLeft32.f (x4 : Int) (-11) = some ((M.rotr x4 11 : Nat) : Int)) := ⟨by unfold bits_RotateLeft32.f; rw [if_pos (by omega)]; rfl⟩
   have H3 : Aside0 (bits_RotateLeft32.f (x4 : Int) (-25) = some ((M.rotr x4 25 : Nat) : Int)) := ⟨by unfold bits_RotateLeft32.f; rw [if_pos (by omega)]; rfl⟩
   have H4 : Aside0 (bits_RotateLeft32.f (x0 : Int) (-2) = some ((M.rotr x0 2 : Nat) : Int)) := ⟨by unfold bits_RotateLeft32.f; rw [if_pos (by omega)]; rfl⟩
   have H5 : Aside0 (bits_RotateLeft32.f (x0 : Int) (-13) = some ((M.rotr x0 13 : Nat) : Int)) := ⟨by unfold bits_RotateLeft32.f; rw [if_pos (by omega)]; rfl⟩
   have H6 : Aside0 (bits_RotateLeft32.f (x0 : Int) (-22) = some ((M.rotr x0 22 : Nat) : Int)) := ⟨by unfold bits_RotateLeft32.f; rw [if_pos (by omega)]; rfl⟩
   have r1 := M.rotr_lt (n := 6) b4
   have r2 := M.rotr_lt (n := 11) b4
   have r3 := M.rotr_lt (n := 25) b4
   have r4 := M.rotr_lt (n := 2) b0
   have r5 := M.rotr_lt (n := 13) b0
   have r6 := M.rotr_lt (n := 22) b0
   have HG1 := Aside0.mk (show M.bg1 x4 = M.rotr x4 6 ^^^ M.rotr x4 11 ^^^ M.rotr x4 25 from rfl)
   have HG0 := Aside0.mk (show M.bg0 x0 = M.rotr x0 2 ^^^ M.rotr x0 13 ^^^ M.rotr x0 22 from rfl)
   generalize M.rotr x4 6 = p1 at r1 H1 HG1
   generalize M.rotr x4 11 = p2 at r2 H2 HG1
   generalize M.rotr x4 25 = p3 at r3 H3 HG1
   generalize M.rotr x0 2 = p4 at r4 H4 HG0
   generalize M.rotr x0 13 = p5 at r5 H5 HG0
   generalize M.rotr x0 22 = p6 at r6 H6 HG0
   have e1 : Go.bits .xor .u32 (Go.bits .xor .u32 (p1 : Int) (p2 : Int)) (p3 : Int) = (M.bg1 x4 : Int) := by
    rw [M.xor32 r1 r2, M.xor32 (M.xor_lt r1 r2) r3, HG1.out]
   have e2 : Go.bits .xor .u32 (Go.bits .xor .u32 (p4 : Int) (p5 : Int)) (p6 : Int) = (M.bg0 x0 : Int) := by
    rw [M.xor32 r4 r5, M.xor32 (M.xor_lt r4 r5) r6, HG0.out]
   have e3 : Go.bits .xor .u32 IntKind.u32.max (x4 : Int) = ((4294967295 - x4 : Nat) : Int) := by
    have := M.xor32 (a := 4294967295) (by decide) b4
    rw [sha_turned.flip b4] at this
    exact this
   have e4 : Go.bits .xor .u32 (Go.bits .and .u32 (x4 : Int) (x5 : Int)) (Go.bits .and .u32 ((4294967295 - x4 : Nat) : Int) (x6 : Int)) = (M.ch x4 x5 x6 : Int) := by
    rw [M.and32 b4 b5, M.and32 (by omega) b6, M.xor32 (M.and_lt b4) (M.and_lt (by omega))]; rfl
   have e5 : Go.bits .xor .u32 (Go.bits .xor .u32 (Go.bits .and .u32 (x0 : Int) (x1 : Int)) (Go.bits .and .u32 (x0 : Int) (x2 : Int))) (Go.bits .and .u32 (x1 : Int) (x2 : Int)) = (M.maj x0 x1 x2 : Int) := by
    rw [M.and32 b0 b1, M.and32 b0 b2, M.and32 b1 b2, M.xor32 (M.and_lt b0) (M.and_lt b0), M.xor32 (M.xor_lt (M.and_lt b0) (M.and_lt b0)) (M.and_lt b1)]; rfl
   clear r1 r2 r3 r4 r5 r6 HG1 HG0 hi
   go_wp2
   go_quiet ((first | (go_at_call 64; with_reducible exact sha_turned.q (bits_RotateLeft32.calls (x4 : Int) (-6) _ _ H1.out)) | (go_at_call 64; with_reducible exact sha_turned.q (bits_RotateLeft32.calls (x4 : Int) (-11) _ _ H2.out)) | (go_at_call 64; with_reducible exact sha_turned.q (bits_RotateLeft32.calls (x4 : Int) (-25) _ _ H3.out))))
   clear HS8
   replace c0_ : (wr.drewN nq).cell? ⟨g4, 0, none⟩ = some (.int .u32 (x0 : Int)) := c0_
   replace c1_ : (wr.drewN nq).cell? ⟨g4, 1, none⟩ = some (.int .u32 (x1 : Int)) := c1_
   replace c2_ : (wr.drewN nq).cell? ⟨g4, 2, none⟩ = some (.int .u32 (x2 : Int)) := c2_
   replace c3_ : (wr.drewN nq).cell? ⟨g4, 3, none⟩ = some (.int .u32 (x3 : Int)) := c3_
   replace c4_ : (wr.drewN nq).cell? ⟨g4, 4, none⟩ = some (.int .u32 (x4 : Int)) := c4_
   replace c5_ : (wr.drewN nq).cell? ⟨g4, 5, none⟩ = some (.int .u32 (x5 : Int)) := c5_
   replace c6_ : (wr.drewN nq).cell? ⟨g4, 6, none⟩ = some (.int .u32 (x6 : Int)) := c6_
   replace c7_ : (wr.drewN nq).cell? ⟨g4, 7, none⟩ = some (.int .u32 (x7 : Int)) := c7_
   replace cw : (wr.drewN nq).cell? ⟨g3, i, none⟩ = some (.int .u32 (wd : Int)) := cw
   replace ck : (wr.drewN nq).cell? ⟨1, i, none⟩ = some (.int .u32 (kk : Int)) := ck
   replace HA : Aside0 (M.arr (wr.drewN nq) w.heap.size 105 .u32 (M.nums32 s)) := ⟨M.arr_drewN HA.out _⟩
   replace HZ : Aside0 (M.arr (wr.drewN nq) g2 105 .u32 (List.replicate 8 0)) := ⟨M.arr_drewN HZ.out _⟩
   replace HW : Aside0 (M.arr (wr.drewN nq) g3 116 .u32 (M.nums32 (M.sched bl 64))) := ⟨M.arr_drewN HW.out _⟩
   replace HSt : Aside0 (M.arr (wr.drewN nq) g4 105 .u32 (M.nums32 [x0, x1, x2, x3, x4, x5, x6, x7])) := ⟨M.arr_drewN HSt.out _⟩
   replace HB : Aside0 (Below w.heap.size w (wr.drewN nq)) := ⟨pw_below_drewN HB.out _⟩
   generalize wr.drewN nq = wr at HA HZ HW HSt HB c0_ c1_ c2_ c3_ c4_ c5_ c6_ c7_ cw ck ⊢
   go_wp2
   go_quiet (fail)
   replace c0_ : (wr.drewN nq).cell? ⟨g4, 0, none⟩ = some (.int .u32 (x0 : Int)) := c0_
   replace c1_ : (wr.drewN nq).cell? ⟨g4, 1, none⟩ = some (.int .u32 (x1 : Int)) := c1_
   replace c2_ : (wr.drewN nq).cell? ⟨g4, 2, none⟩ = some (.int .u32 (x2 : Int)) := c2_
   replace c3_ : (wr.drewN nq).cell? ⟨g4, 3, none⟩ = some (.int .u32 (x3 : Int)) := c3_
   replace c4_ : (wr.drewN nq).cell? ⟨g4, 4, none⟩ = some (.int .u32 (x4 : Int)) := c4_
   replace c5_ : (wr.drewN nq).cell? ⟨g4, 5, none⟩ = some (.int .u32 (x5 : Int)) := c5_
   replace c6_ : (wr.drewN nq).cell? ⟨g4, 6, none⟩ = some (.int .u32 (x6 : Int)) := c6_
   replace c7_ : (wr.drewN nq).cell? ⟨g4, 7, none⟩ = some (.int .u32 (x7 : Int)) := c7_
   replace cw : (wr.drewN nq).cell? ⟨g3, i, none⟩ = some (.int .u32 (wd : Int)) := cw
   replace ck : (wr.drewN nq).cell? ⟨1, i, none⟩ = some (.int .u32 (kk : Int)) := ck
   replace HA : Aside0 (M.arr (wr.drewN nq) w.heap.size 105 .u32 (M.nums32 s)) := ⟨M.arr_drewN HA.out _⟩
   replace HZ : Aside0 (M.arr (wr.drewN nq) g2 105 .u32 (List.replicate 8 0)) := ⟨M.arr_drewN HZ.out _⟩
   replace HW : Aside0 (M.arr (wr.drewN nq) g3 116 .u32 (M.nums32 (M.sched bl 64))) := ⟨M.arr_drewN HW.out _⟩
   replace HSt : Aside0 (M.arr (wr.drewN nq) g4 105 .u32 (M.nums32 [x0, x1, x2, x3, x4, x5, x6, x7])) := ⟨M.arr_drewN HSt.out _⟩
   replace HB : Aside0 (Below w.heap.size w (wr.drewN nq)) := ⟨pw_below_drewN HB.out _⟩
   generalize wr.drewN nq = wr at HA HZ HW HSt HB c0_ c1_ c2_ c3_ c4_ c5_ c6_ c7_ cw ck ⊢
   go_wp2
   go_quiet ((first | (go_at_call 64; with_reducible exact sha_turned.q (bits_RotateLeft32.calls (x0 : Int) (-2) _ _ H4.out)) | (go_at_call 64; with_reducible exact sha_turned.q (bits_RotateLeft32.calls (x0 : Int) (-13) _ _ H5.out)) | (go_at_call 64; with_reducible exact sha_turned.q (bits_RotateLeft32.calls (x0 : Int) (-22) _ _ H6.out))))
   replace c0_ : (wr.drewN nq).cell? ⟨g4, 0, none⟩ = some (.int .u32 (x0 : Int)) := c0_
   replace c1_ : (wr.drewN nq).cell? ⟨g4, 1, none⟩ = some (.int .u32 (x1 : Int)) := c1_
   replace c2_ : (wr.drewN nq).cell? ⟨g4, 2, none⟩ = some (.int .u32 (x2 : Int)) := c2_
   replace c3_ : (wr.drewN nq).cell? ⟨g4, 3, none⟩ = some (.int .u32 (x3 : Int)) := c3_
   replace c4_ : (wr.drewN nq).cell? ⟨g4, 4, none⟩ = some (.int .u32 (x4 : Int)) := c4_
   replace c5_ : (wr.drewN nq).cell? ⟨g4, 5, none⟩ = some (.int .u32 (x5 : Int)) := c5_
   replace c6_ : (wr.drewN nq).cell? ⟨g4, 6, none⟩ = some (.int .u32 (x6 : Int)) := c6_
   replace c7_ : (wr.drewN nq).cell? ⟨g4, 7, none⟩ = some (.int .u32 (x7 : Int)) := c7_
   replace cw : (wr.drewN nq).cell? ⟨g3, i, none⟩ = some (.int .u32 (wd : Int)) := cw
   replace ck : (wr.drewN nq).cell? ⟨1, i, none⟩ = some (.int .u32 (kk : Int)) := ck
   replace HA : Aside0 (M.arr (wr.drewN nq) w.heap.size 105 .u32 (M.nums32 s)) := ⟨M.arr_drewN HA.out _⟩
   replace HZ : Aside0 (M.arr (wr.drewN nq) g2 105 .u32 (List.replicate 8 0)) := ⟨M.arr_drewN HZ.out _⟩
   replace HW : Aside0 (M.arr (wr.drewN nq) g3 116 .u32 (M.nums32 (M.sched bl 64))) := ⟨M.arr_drewN HW.out _⟩
   replace HSt : Aside0 (M.arr (wr.drewN nq) g4 105 .u32 (M.nums32 [x0, x1, x2, x3, x4, x5, x6, x7])) := ⟨M.arr_drewN HSt.out _⟩
   replace HB : Aside0 (Below w.heap.size w (wr.drewN nq)) := ⟨pw_below_drewN HB.out _⟩
   generalize wr.drewN nq = wr at HA HZ HW HSt HB c0_ c1_ c2_ c3_ c4_ c5_ c6_ c7_ cw ck ⊢
   have HY : Aside0 ([((x7 : Int) + (M.bg1 x4 : Nat) + (M.ch x4 x5 x6 : Nat) + (kk : Int) + (wd : Int) + ((M.bg0 x0 : Nat) + (M.maj x0 x1 x2 : Nat))) % 4294967296, (x0 : Int), (x1 : Int), (x2 : Int), ((x3 : Int) + ((x7 : Int) + (M.bg1 x4 : Nat) + (M.ch x4 x5 x6 : Nat) + (kk : Int) + (wd : Int))) % 4294967296, (x4 : Int), (x5 : Int), (x6 : Int)] = M.nums32 (M.rnds s (M.sched bl 64) (i + 1))) := ⟨by
    rw [HN1.out]
    simp only [M.rnd, M.nums32, List.map_cons, List.map_nil, List.getD_cons_zero, List.getD_cons_succ]
    generalize M.bg1 x4 = q1
    generalize M.ch x4 x5 x6 = q2
    generalize M.bg0 x0 = q3
    generalize M.maj x0 x1 x2 = q4
    congr 1
    ·omega
    ·congr 4
     omega⟩
   have HE8 : Aside0 (([((x7 : Int) + (M.bg1 x4 : Nat) + (M.ch x4 x5 x6 : Nat) + (kk : Int) + (wd : Int) + ((M.bg0 x0 : Nat) + (M.maj x0 x1 x2 : Nat))) % 4294967296, (x0 : Int), (x1 : Int), (x2 : Int), ((x3 : Int) + ((x7 : Int) + (M.bg1 x4 : Nat) + (M.ch x4 x5 x6 : Nat) + (kk : Int) + (wd : Int))) % 4294967296, (x4 : Int), (x5 : Int), (x6 : Int)] : List Int).length = (M.nums32 [x0, x1, x2, x3, x4, x5, x6, x7]).length) := ⟨by simp [M.nums32]⟩
   clear HN1
   go_wp2_with (first | ((with_reducible refine gate_store (t := 105) (p := 6) (v := .tmp 104) rfl ?_); refine M.wp_arr_store rfl 105 _ _ rfl g4 105 .u32 (M.nums32 [x0, x1, x2, x3, x4, x5, x6, x7]) [((x7 : Int) + (M.bg1 x4 : Nat) + (M.ch x4 x5 x6 : Nat) + (kk : Int) + (wd : Int) + ((M.bg0 x0 : Nat) + (M.maj x0 x1 x2 : Nat))) % 4294967296, (x0 : Int), (x1 : Int), (x2 : Int), ((x3 : Int) + ((x7 : Int) + (M.bg1 x4 : Nat) + (M.ch x4 x5 x6 : Nat) + (kk : Int) + (wd : Int))) % 4294967296, (x4 : Int), (x5 : Int), (x6 : Int)] rfl rfl HSt.out HE8.out sha_turned.i82 ?_; intro w6 hA6 hF6 hB6 hz6; have n1_ := Aside0.mk hA6; rw [HY.out] at n1_; have HA6 := Aside0.mk (show M.arr w6 w.heap.size 105 .u32 (M.nums32 s) from (hF6 _ (by have := L1.out; have := L2.out; have := L3.out; omega)).trans HA.out); have HZ6 := Aside0.mk (show M.arr w6 g2 105 .u32 (List.replicate 8 0) from (hF6 _ (by have := L2.out; have := L3.out; omega)).trans HZ.out); have HW6 := Aside0.mk (show M.arr w6 g3 116 .u32 (M.nums32 (M.sched bl 64)) from (hF6 _ (by have := L3.out; omega)).trans HW.out); have HB6 := Aside0.mk (hB6 _ _ (by have := L1.out; have := L2.out; have := L3.out; omega) HB.out); clear hA6 hF6 hB6 hz6) | fail)
   exact ⟨⟨i + 1, by go_num, by omega, HA6, HZ6, HW6, n1_, HB6⟩, by simp [intOf]; omega⟩
  ·obtain rfl : i = 64 := by omega
   clear hi hlt
   have hr8 := sha_turned.len8 s (M.sched bl 64) HS.out 64
   have HT := Aside0.mk (show sha_turned.mem (M.rnds s (M.sched bl 64) 64) s 8 = M.turned s bl from sha_turned.mem_all s bl)
   rw [← sha_turned.mem_zero _ s hr8] at HSt
   generalize M.rnds s (M.sched bl 64) 64 = r at HSt HT hr8
   go_wp2
   go_loopw [106] (fun v106 wq => ∃ j : Nat, v106 = .int .i64 (j : Int) ∧ j ≤ 8 ∧ Aside0 (M.arr wq w.heap.size 105 .u32 (M.nums32 s)) ∧ Aside0 (M.arr wq g2 105 .u32 (List.replicate 8 0)) ∧ Aside0 (M.arr wq g4 105 .u32 (M.nums32 (sha_turned.mem r s j))) ∧ Aside0 (Below w.heap.size w wq)) (fun v106 _ => 8 - (intOf v106).toNat)
   case atStart => exact ⟨0, rfl, Nat.zero_le _, HA, HZ, HSt, HB⟩
   case round =>
    clear HA HZ HSt HB HW
    obtain ⟨j, rfl, hj, HA, HZ, HSt, HB⟩ := hrel
    by_cases hlt : j < 8
    ·have ca := M.arr_cell HA.out j (by rw [H8.out]; exact hlt)
     have cs := M.arr_cell HSt.out j (by rw [sha_turned.mem_len]; exact hlt)
     have cf := M.arr_free HSt.out j
     rw [sha_turned.mem_get r s j hlt] at cs
     rw [sha_turned.nget s j] at ca
     have HX := Aside0.mk (sha_turned.mem_set r s j hlt)
     generalize r.getD j 0 = x at cs HX
     generalize s.getD j 0 = y at ca HX
     have g0 : (0 : Int) ≤ (j : Int) := by omega
     have g1 : (j : Int) < 8 := by omega
     have l4 := Aside0.mk (show w.heap.size ≠ g4 from by have := L1.out; have := L2.out; have := L3.out; omega)
     have l5 := Aside0.mk (show g2 ≠ g4 from by have := L1.out; have := L2.out; have := L3.out; omega)
     have l6 := Aside0.mk (show w.heap.size ≤ g4 from by have := L1.out; have := L2.out; have := L3.out; omega)
     go_wp2
     go_region
     all_goals
      (try go_wp2)
      refine ⟨⟨j + 1, by go_num, by omega, ⟨M.arr_drew (M.arr_far HA.out _ l4.out _)⟩, ⟨M.arr_drew (M.arr_far HZ.out _ l5.out _)⟩, ⟨?_⟩, ⟨below_drew1 (HB.out.setCell l6.out _)⟩⟩, by simp [intOf]; omega⟩
      rw [← HX.out]
      exact M.arr_drew (M.arr_set HSt.out j (((x + y) % 4294967296 : Nat) : Int))
    ·obtain rfl : j = 8 := by omega
     have HM := Aside0.mk (sha_turned.mem_len r s 8)
     go_wp2_with (first | ((with_reducible refine gate_dst (N := 118) rfl ?_); refine M.wp_arr_load rfl 105 _ rfl g4 105 .u32 (M.nums32 (sha_turned.mem r s 8)) rfl HSt.out _ Tryd.underlying105 rfl (by rw [HM.out]; exact sha_turned.i82) ?_) | ((with_reducible refine gate_store (t := 105) (p := 4) (v := .tmp 118) rfl ?_); refine M.wp_arr_store rfl 105 _ _ rfl g2 105 .u32 (List.replicate 8 0) (M.nums32 (sha_turned.mem r s 8)) rfl rfl HZ.out HM.out sha_turned.i82 ?_; intro w7 hA7 hF7 hB7 hz7; have HA7 := Aside0.mk hA7; have HB7 := Aside0.mk (hB7 _ _ (by have := L1.out; omega) HB.out); clear hA7 hF7 hB7 hz7))
     have hload := M.arr_loadVar (P := Tryd.prog) HA7.out 105 _ Tryd.underlying105 rfl (by rw [HM.out]; exact sha_turned.i82)
     refine bodyPost_ret (v := .agg (nums .u32 (M.nums32 (sha_turned.mem r s 8))).toArray) (by exact M.results_arr1 (fn := Tryd.f57) (t := 4) (ty := 105) (by rfl) _ (by rfl) hload) rfl ⟨?_, HB7.out⟩
     rw [HT.out]
theorem sha_Hash_Put.turn (ad : Addr) (c y0 y1 y2 y3 y4 y5 y6 y7 : Nat) (bl : List UInt8) (w : World) (hlt : ∀ x ∈ [y0, y1, y2, y3, y4, y5, y6, y7], x < 4294967296) (hb : bl.length = 64) (hr : ReadsInt w .u8 (some ad) 64 (bl.map fun x => (x.toNat : Int))) (hc : 64 ≤ c) (hT : M.stab w) :
    Calls Tryd.prog 57 #[.agg #[.int .u32 (y0 : Int), .int .u32 (y1 : Int), .int .u32 (y2 : Int), .int .u32 (y3 : Int), .int .u32 (y4 : Int), .int .u32 (y5 : Int), .int .u32 (y6 : Int), .int .u32 (y7 : Int)], .slice (some ad) 64 c] w fun e w' => ∃ z0 z1 z2 z3 z4 z5 z6 z7, M.turned [y0, y1, y2, y3, y4, y5, y6, y7] bl = [z0, z1, z2, z3, z4, z5, z6, z7] ∧ e = .returned (.agg #[.int .u32 (z0 : Int), .int .u32 (z1 : Int), .int .u32 (z2 : Int), .int .u32 (z3 : Int), .int .u32 (z4 : Int), .int .u32 (z5 : Int), .int .u32 (z6 : Int), .int .u32 (z7 : Int)]) ∧ Below w.heap.size w w' := by
 refine (sha_turned.calls ad c [y0, y1, y2, y3, y4, y5, y6, y7] bl w rfl hlt hb (Kd.C_of_reads (d := (0 : Int)) hr) hc hT.2).mono ?_
 rintro e w' ⟨rfl, hb⟩
 obtain ⟨z0, z1, z2, z3, z4, z5, z6, z7, hz⟩ := sha_turned.eight (M.turned [y0, y1, y2, y3, y4, y5, y6, y7] bl) (by simp [M.turned])
 refine ⟨z0, z1, z2, z3, z4, z5, z6, z7, hz, ?_, hb⟩
 rw [hz]; rfl
theorem sha_Hash_Put.lt  (s : List Nat) (bl : List UInt8) : ∀ x ∈ M.turned s bl, x < 4294967296 := by
 intro x hx
 obtain ⟨i, _, rfl⟩ := List.mem_map.1 hx
 exact Nat.mod_lt _ (by decide)
theorem sha_Hash_Put.bytes (t : ByteArray) : bytesOf t = (M.bs t).map fun x => (x.toNat : Int) := by simp [bytesOf, M.bs]
theorem sha_Hash_Put.foot_own {w : World} {base g n c : Nat} {A : Option Addr} {l : List UInt8} (h : w.ownsRow base 5 1 (.slice A n c) n (nums .u8 (l.map fun x => (x.toNat : Int)))) (hg : g < base) : M.foot w g A n l ∧ n ≤ c := by
 refine ⟨fun W' hk => ?_, ?_⟩
 ·have ho := hk.own h (fun e => by have := own_base h g e; omega) (by cases hv : Value.ownBlock (.slice A n c) <;> simp)
  obtain ⟨A', c', e, hr⟩ := own_reads ho
  injection e with e1
  subst e1
  exact hr
 ·rcases h.2 with ⟨e, _⟩ | ⟨_, _, _, e, _, _, h1, _⟩
  ·injection e with _ e1 e2
   omega
  ·injection e with _ e1 e2
   omega
set_option maxHeartbeats 8000000 in
set_option maxRecDepth 100000 in
theorem sha_Hash_Put.calls (g x0 x1 x2 x3 x4 x5 x6 x7 : Nat) (t : ByteArray) (w : World) (hH : M.hash w g 108 x0 x1 x2 x3 x4 x5 x6 x7 (.slice none 0 0) 0) (hT : M.stab w) (hg : 1 < g) (hx : ∀ x ∈ [x0, x1, x2, x3, x4, x5, x6, x7], x < 4294967296) (hs : t.size ≤ 1000000000000) :
    Calls Tryd.prog 39 #[.pointer (some ⟨g, 0, none⟩), .string t] w fun e w' => e = .returned (.int .i64 0) ∧ ∃ (y0 y1 y2 y3 y4 y5 y6 y7 : Nat) (A : Option Addr) (m c : Nat), M.eat [x0, x1, x2, x3, x4, x5, x6, x7] (M.bs t) (t.size / 64) = [y0, y1, y2, y3, y4, y5, y6, y7] ∧ M.hash w' g 108 y0 y1 y2 y3 y4 y5 y6 y7 (.slice A m c) (t.size : Int) ∧ M.foot w' g A m ((M.bs t).drop (64 * (t.size / 64))) ∧ m ≤ c ∧ 64 * (t.size / 64) + m = t.size ∧ Below g w w' := by
 have c8 : w.cell? ⟨g, 8, none⟩ = some (.slice none 0 0) := M.blk_cell hH 8 _ rfl
 have c9 : w.cell? ⟨g, 9, none⟩ = some (.int .i64 0) := M.blk_cell hH 9 _ rfl
 have f8 := M.blk_free hH 8
 have f9 := M.blk_free hH 9
 have HH := Aside0.mk hH
 have HT := Aside0.mk hT
 have HX := Aside0.mk hx
 have HG := Aside0.mk hg
 have hgl := M.lt_blk hH
 have HGL := Aside0.mk hgl
 have HHW := Aside0.mk (show M.hash (w.setCell ⟨g, 9, none⟩ (.int .i64 (t.size : Int))) g 108 x0 x1 x2 x3 x4 x5 x6 x7 (.slice none 0 0) (t.size : Int) from M.blk_set hH 9 _)
 have HBW := Aside0.mk (show Below g w (w.setCell ⟨g, 9, none⟩ (.int .i64 (t.size : Int))) from (Below.refl g w).setCell (Nat.le_refl _) _)
 have HSZ := Aside0.mk (show (w.setCell ⟨g, 9, none⟩ (.int .i64 (t.size : Int))).heap.size = w.heap.size from by simp)
 clear hH hT hx hg hgl
 go_enter Tryd.func39, Tryd.ntmps39
 go_wp2_with (first | (go_at_call 56; (with_reducible refine (sha_Hash_there.calls g x0 x1 x2 x3 x4 x5 x6 x7 _ _ _ HH.out).mono ?_); rintro e w1 ⟨rfl, rfl⟩) | (at_builtin; refine print_append_str (w0 := w.setCell ⟨g, 9, none⟩ (.int .i64 (t.size : Int))) w.heap.size rfl _ _ 106 9 5 rfl Tryd.underlying106 (by kernel_rfl) info5 (.slice none 0 0) [] t rfl rfl ⟨rfl, .inl ⟨rfl, rfl⟩⟩ (Below.refl _ _) ?hbase ?hln ?_; (case hbase => exact Nat.le_of_eq HSZ.out.symm); (case hln => simp; omega); intro v1 w2 hown hb2 hg2; rw [List.nil_append, bytesOf_length, sha_Hash_Put.bytes] at hown; obtain ⟨A1, cc, rfl⟩ := own_slice hown; obtain ⟨hft, hcc⟩ := sha_Hash_Put.foot_own hown HGL.out; have HH2 := Aside0.mk (show M.hash w2 g 108 x0 x1 x2 x3 x4 x5 x6 x7 (.slice none 0 0) (t.size : Int) from (hb2.block g HGL.out).trans HHW.out); have HB2 := Aside0.mk (HBW.out.trans (hb2.mono (Nat.le_of_lt HGL.out))); have c28 : w2.cell? ⟨g, 8, none⟩ = some (.slice none 0 0) := M.blk_cell HH2.out 8 _ rfl; have f28 := M.blk_free HH2.out 8; clear hown hb2 hg2))
 have HH3 := Aside0.mk (show M.hash (w2.setCell ⟨g, 8, none⟩ (.slice A1 t.size cc)) g 108 x0 x1 x2 x3 x4 x5 x6 x7 (.slice A1 t.size cc) (t.size : Int) from M.blk_set HH2.out 8 _)
 have HF3 := Aside0.mk (M.foot_step hft ((KeepBut.refl w2 g none).set_ 8 (.slice A1 t.size cc)))
 have HB3 := Aside0.mk (HB2.out.setCell (p := ⟨g, 8, none⟩) (Nat.le_refl _) (.slice A1 t.size cc))
 clear hft HH2 HB2 c28 f28 HHW HBW HSZ
 generalize w2.setCell ⟨g, 8, none⟩ (.slice A1 t.size cc) = w3 at HH3 HF3 HB3 ⊢
 go_loopg [] t.size (fun f wr => ∃ (k : Nat) (y0 y1 y2 y3 y4 y5 y6 y7 : Nat) (A : Option Addr) (c : Nat), Aside0 (M.eat [x0, x1, x2, x3, x4, x5, x6, x7] (M.bs t) k = [y0, y1, y2, y3, y4, y5, y6, y7]) ∧ 64 * k + f = t.size ∧ Aside0 (M.hash wr g 108 y0 y1 y2 y3 y4 y5 y6 y7 (.slice A f c) (t.size : Int)) ∧ Aside0 (M.foot wr g A f ((M.bs t).drop (64 * k))) ∧ f ≤ c ∧ Aside0 (Below g w wr))
 case atStart => exact ⟨0, x0, x1, x2, x3, x4, x5, x6, x7, A1, cc, ⟨rfl⟩, by omega, HH3, HF3, hcc, HB3⟩
 case round =>
  clear HH3 HF3 HB3 HH c8 c9 f8 f9 hcc
  obtain ⟨k, y0, y1, y2, y3, y4, y5, y6, y7, A, c, HE, hk, HH, HF, hcc, HB⟩ := hrel
  have c0_ : wr.cell? ⟨g, 0, none⟩ = some (.int .u32 (y0 : Int)) := M.blk_cell HH.out 0 _ rfl
  have c1_ : wr.cell? ⟨g, 1, none⟩ = some (.int .u32 (y1 : Int)) := M.blk_cell HH.out 1 _ rfl
  have c2_ : wr.cell? ⟨g, 2, none⟩ = some (.int .u32 (y2 : Int)) := M.blk_cell HH.out 2 _ rfl
  have c3_ : wr.cell? ⟨g, 3, none⟩ = some (.int .u32 (y3 : Int)) := M.blk_cell HH.out 3 _ rfl
  have c4_ : wr.cell? ⟨g, 4, none⟩ = some (.int .u32 (y4 : Int)) := M.blk_cell HH.out 4 _ rfl
  have c5_ : wr.cell? ⟨g, 5, none⟩ = some (.int .u32 (y5 : Int)) := M.blk_cell HH.out 5 _ rfl
  have c6_ : wr.cell? ⟨g, 6, none⟩ = some (.int .u32 (y6 : Int)) := M.blk_cell HH.out 6 _ rfl
  have c7_ : wr.cell? ⟨g, 7, none⟩ = some (.int .u32 (y7 : Int)) := M.blk_cell HH.out 7 _ rfl
  have c8_ : wr.cell? ⟨g, 8, none⟩ = some (.slice A gk c) := M.blk_cell HH.out 8 _ rfl
  by_cases hlt : 64 ≤ gk
  ·have hd : decide (64 ≤ (gk : Int)) = true := decide_eq_true (by omega)
   obtain ⟨ad, rfl, _⟩ := (M.foot_now HF.out).2.2 (by omega)
   have a82 := Tryd.isAgg82
   have z82 := Tryd.sizeOf82
   have hblk : (((M.bs t).drop (64 * k)).take 64).length = 64 := by
    have : (M.bs t).length = t.size := M.bs_length t
    simp; omega
   have HBL := Aside0.mk hblk
   have hrd := (M.foot_now HF.out).take_ 64 hlt
   rw [← List.map_take] at hrd
   have HRD := Aside0.mk hrd
   have HEn := Aside0.mk (show M.eat [x0, x1, x2, x3, x4, x5, x6, x7] (M.bs t) (k + 1) = M.turned [y0, y1, y2, y3, y4, y5, y6, y7] (((M.bs t).drop (64 * k)).take 64) from by rw [M.eat, HE.out])
   have HYL := Aside0.mk (show ∀ x ∈ [y0, y1, y2, y3, y4, y5, y6, y7], x < 4294967296 from by
    rw [← HE.out]
    cases k with
    | zero => exact HX.out
    | succ k => exact sha_Hash_Put.lt _ _)
   have HTr := Aside0.mk (M.stab_below HT.out HB.out HG.out)
   have hc64 : 64 ≤ c := by omega
   clear hblk hrd hd
   go_wp2
   go_region_with (go_at_call 57; (with_reducible refine (sha_Hash_Put.turn ad c y0 y1 y2 y3 y4 y5 y6 y7 (((M.bs t).drop (64 * k)).take 64) _ HYL.out HBL.out ?hr hc64 ?ht).mono ?_); (case hr => exact HRD.out); (case ht => exact HTr.out); rintro e w4 ⟨z0, z1, z2, z3, z4, z5, z6, z7, hz, rfl, hb4⟩; have HZ := Aside0.mk hz; have HH4 := Aside0.mk (show M.hash w4 g 108 y0 y1 y2 y3 y4 y5 y6 y7 (.slice (some ad) gk c) (t.size : Int) from (hb4.block g (M.lt_blk HH.out)).trans HH.out); have HB4 := Aside0.mk ((below_drew1 HB.out).trans (hb4.mono (Nat.le_of_lt (M.lt_blk HH.out)))); have HF4 := Aside0.mk (M.foot_step HF.out (KeepBut.of_below hb4 g none)); have e0_ : w4.cell? ⟨g, 0, none⟩ = some (.int .u32 (y0 : Int)) := M.blk_cell HH4.out 0 _ rfl; have g0_ := M.blk_free HH4.out 0; have e1_ : w4.cell? ⟨g, 1, none⟩ = some (.int .u32 (y1 : Int)) := M.blk_cell HH4.out 1 _ rfl; have g1_ := M.blk_free HH4.out 1; have e2_ : w4.cell? ⟨g, 2, none⟩ = some (.int .u32 (y2 : Int)) := M.blk_cell HH4.out 2 _ rfl; have g2_ := M.blk_free HH4.out 2; have e3_ : w4.cell? ⟨g, 3, none⟩ = some (.int .u32 (y3 : Int)) := M.blk_cell HH4.out 3 _ rfl; have g3_ := M.blk_free HH4.out 3; have e4_ : w4.cell? ⟨g, 4, none⟩ = some (.int .u32 (y4 : Int)) := M.blk_cell HH4.out 4 _ rfl; have g4_ := M.blk_free HH4.out 4; have e5_ : w4.cell? ⟨g, 5, none⟩ = some (.int .u32 (y5 : Int)) := M.blk_cell HH4.out 5 _ rfl; have g5_ := M.blk_free HH4.out 5; have e6_ : w4.cell? ⟨g, 6, none⟩ = some (.int .u32 (y6 : Int)) := M.blk_cell HH4.out 6 _ rfl; have g6_ := M.blk_free HH4.out 6; have e7_ : w4.cell? ⟨g, 7, none⟩ = some (.int .u32 (y7 : Int)) := M.blk_cell HH4.out 7 _ rfl; have g7_ := M.blk_free HH4.out 7; clear hz hb4)
   all_goals
    have HH5 := Aside0.mk (M.hash_set8 HH4.out z0 z1 z2 z3 z4 z5 z6 z7)
    have HF5 := Aside0.mk (M.foot_step HF4.out (M.keep_set8 w4 g z0 z1 z2 z3 z4 z5 z6 z7))
    have HB5 := Aside0.mk (M.below_set8 HB4.out g z0 z1 z2 z3 z4 z5 z6 z7 (Nat.le_refl _))
    clear e0_ e1_ e2_ e3_ e4_ e5_ e6_ e7_ g0_ g1_ g2_ g3_ g4_ g5_ g6_ g7_ HH4 HF4 HB4 c0_ c1_ c2_ c3_ c4_ c5_ c6_ c7_ c8_ HH HF HB HRD HTr
    generalize ((((((((w4.setCell ⟨g, 0, none⟩ (.int .u32 (z0 : Int))).setCell ⟨g, 1, none⟩ (.int .u32 (z1 : Int))).setCell ⟨g, 2, none⟩ (.int .u32 (z2 : Int))).setCell ⟨g, 3, none⟩ (.int .u32 (z3 : Int))).setCell ⟨g, 4, none⟩ (.int .u32 (z4 : Int))).setCell ⟨g, 5, none⟩ (.int .u32 (z5 : Int))).setCell ⟨g, 6, none⟩ (.int .u32 (z6 : Int))).setCell ⟨g, 7, none⟩ (.int .u32 (z7 : Int))) = w5 at HH5 HF5 HB5 ⊢
    have c8_ : w5.cell? ⟨g, 8, none⟩ = some (.slice (some ad) gk c) := M.blk_cell HH5.out 8 _ rfl
    have f8_ := M.blk_free HH5.out 8
    obtain ⟨i0, hi0, hi1⟩ := Option.map_eq_some_iff.1 info5
    simp only [Prod.mk.injEq] at hi1
    obtain ⟨A2, hcut, hrd2⟩ := print_cut (P := Tryd.prog) 106 5 .i64 Tryd.underlying106 hi0 hi1.2.1 (some ad) gk c 64 hlt
    have hcut' : ∀ W : World, (Instr.slice 106 (.slice (some ad) gk c) (some (.int .i64 64)) none none).run Tryd.prog W = .ok (.slice A2 (gk - 64) (c - 64)) W := hcut
    have HH6 := Aside0.mk (show M.hash (w5.setCell ⟨g, 8, none⟩ (.slice A2 (gk - 64) (c - 64))) g 108 z0 z1 z2 z3 z4 z5 z6 z7 (.slice A2 (gk - 64) (c - 64)) (t.size : Int) from M.blk_set HH5.out 8 _)
    have hf6 : M.foot w5 g A2 (gk - 64) ((M.bs t).drop (64 * (k + 1))) := fun W' hk' => by
     have := hrd2 W' .u8 _ hcc (HF5.out W' hk')
     rw [← List.map_drop, List.drop_drop] at this
     rw [show 64 * (k + 1) = 64 * k + 64 from by omega]
     exact this
    have HF6 := Aside0.mk (M.foot_step hf6 ((KeepBut.refl w5 g none).set_ 8 (.slice A2 (gk - 64) (c - 64))))
    have HB6 := Aside0.mk (HB5.out.setCell (p := ⟨g, 8, none⟩) (Nat.le_refl _) (.slice A2 (gk - 64) (c - 64)))
    clear hcut hrd2 hf6 HH5 HF5 HB5 hi0 hi1
    go_wp2
    go_roundg (gk - 64)
    case measure => omega
    case rel => exact ⟨k + 1, z0, z1, z2, z3, z4, z5, z6, z7, A2, c - 64, ⟨by rw [HEn.out, HZ.out]⟩, by omega, HH6, HF6, by omega, HB6⟩
  ·have hd : decide (64 ≤ (gk : Int)) = false := decide_eq_false (by omega)
   go_wp2
   go_ret
   have hkd : t.size / 64 = k := by omega
   rw [hkd]
   exact ⟨rfl, y0, y1, y2, y3, y4, y5, y6, y7, A, gk, c, HE.out, HH.out, HF.out, hcc, hk, HB.out⟩
theorem sha_text.i82 : (Tryd.prog.info? 105).map (·.size) = some 8 := by kernel_rfl
theorem sha_text.idx (xs : List Int) (hl : xs.length = 8) (j : Nat) (h : j < 8) (W : World) : (Instr.index 105 (.agg (nums .u32 xs).toArray) (.int .i64 (j : Int))).run Tryd.prog W = .ok (.int .u32 (xs.getD j 0)) W := by
 have hs : (sizeOf 104).run Tryd.prog W = .ok 1 W := by kernel_rfl
 have hk : (0 : Int) ≤ (j : Int) ∧ (j : Int) < ((8 : Nat) : Int) := by omega
 have hn := M.nums_get .u32 xs j (by omega)
 rw [List.getD_eq_getElem?_getD] at hn ⊢
 simp [Instr.index, run_underlying Tryd.underlying105, asIntOf, hk, hs, hn, h, go_sem]
def sha_text.row : List Nat → List Int
  | [] => []
  | x :: l => [((x / 16777216 % 256 : Nat) : Int), ((x / 65536 % 256 : Nat) : Int), ((x / 256 % 256 : Nat) : Int), ((x % 256 : Nat) : Int)] ++ sha_text.row l
theorem sha_text.row_app (a b : List Nat) : sha_text.row (a ++ b) = sha_text.row a ++ sha_text.row b := by
 induction a with
 | nil => rfl
 | cons x a ih => rw [List.cons_append, sha_text.row, sha_text.row, ih, List.append_assoc]
theorem sha_text.row_len (a : List Nat) : (sha_text.row a).length = 4 * a.length := by
 induction a with
 | nil => rfl
 | cons x a ih => rw [sha_text.row, List.length_append, ih]; simp; omega
theorem sha_text.row_str (a : List Nat) : strOfNums (sha_text.row a) = M.sb (M.shaText a) := by
 have h : ∀ a : List Nat, sha_text.row a = ((M.shaText a).map UInt8.toNat).map fun (n : Nat) => (n : Int) := by
  intro a
  induction a with
  | nil => rfl
  | cons x a ih =>
   rw [sha_text.row, ih]
   simp [M.shaText]
 have e := M.strOfNums_nat ((M.shaText a).map UInt8.toNat)
 rw [← h] at e
 rw [← M.sb_bs (strOfNums (sha_text.row a)), e]
 congr 1
 rw [List.map_map]
 conv => rhs; rw [← List.map_id (M.shaText a)]
 exact List.map_congr_left fun x _ => by simp
theorem sha_text.four (W : World) (e : TypeId) (a b c d : Int) : ReadsInt (W.alloc (.cells #[.int .u8 a, .int .u8 b, .int .u8 c, .int .u8 d] e)) .u8 (some ⟨W.heap.size, 0, none⟩) 4 [a, b, c, d] := by
 have h := own_lit W W.heap.size e .u8 [a, b, c, d] (Nat.le_refl _) (by simp)
 obtain ⟨A, c, e1, hr⟩ := own_reads h
 injection e1 with e1
 subst e1
 exact hr
set_option maxHeartbeats 8000000 in
set_option maxRecDepth 100000 in
theorem sha_text.calls (s : List Nat) (w : World) (hs : s.length = 8) (hlt : ∀ x ∈ s, x < 4294967296) :
    Calls Tryd.prog 58 #[.agg (nums .u32 (M.nums32 s)).toArray] w fun e w' => e = .returned (.string (M.sb (M.shaText s))) ∧ Below w.heap.size w w' := by
 have HS := Aside0.mk hs
 have HLT := Aside0.mk hlt
 have HB := Aside0.mk (Below.refl w.heap.size w)
 have H8 := Aside0.mk (show (M.nums32 s).length = 8 from by unfold M.nums32; rw [List.length_map]; exact hs)
 have hmk : ∀ W : World, (Instr.makeSlice 106 (.int .i64 0) (.int .i64 32)).run Tryd.prog W = .ok (.slice (some ⟨W.heap.size, 0, none⟩) 0 32) (W.alloc (.cells (madeCells #[.int .u8 0] 32) 5)) := by
  intro W
  obtain ⟨i0, hi, hz⟩ := Option.map_eq_some_iff.1 info5
  simp only [Prod.mk.injEq] at hz
  have := run_make (w := W) 106 5 i0 (.int .u8 0) Tryd.underlying106 hi hz.1 .i64 .i64 0 32 (by decide) (by decide) (by rw [hz.2.2]; decide) (by decide)
  rw [hz.2.1] at this
  exact this
 clear hs hlt
 go_enter Tryd.func58, Tryd.ntmps58
 go_wp2_with (first | ((with_reducible refine gate_dst (N := 1) rfl ?_); refine M.bx 1 105 ((nums .u32 (M.nums32 s)).toArray) ?_; intro gb hg w2 hbox hb; subst hg; have HA2 := Aside0.mk (show M.arr w2 w.heap.size 105 .u32 (M.nums32 s) from hbox); have n1_ := Aside0.mk (below_step HB.out hb); clear HB; have HB := n1_; clear n1_ hb hbox; have L1 := Aside0.mk (M.arr_lt HA2.out)) | ((with_reducible refine gate_dst (N := 7) rfl ?_); refine M.wp_arr_load rfl 105 _ rfl w.heap.size 105 .u32 (M.nums32 s) rfl (M.arr_alloc HA2.out _) _ Tryd.underlying105 rfl (by rw [H8.out]; exact sha_text.i82) ?_))
 obtain ⟨g3, hg3⟩ : ∃ g, g = w2.heap.size := ⟨_, rfl⟩
 have hown := own_made w2 w.heap.size 5 .u8 32 (Nat.le_of_lt L1.out) (by decide)
 have HO3 := Aside0.mk (own_take (m := 0) hown (by decide))
 have HB3 := Aside0.mk (below_alloc HB.out (.cells (madeCells #[.int .u8 0] 32) 5))
 have HA3 := Aside0.mk (M.arr_alloc HA2.out (.cells (madeCells #[.int .u8 0] 32) 5))
 clear hown HB HA2
 generalize w2.alloc (.cells (madeCells #[.int .u8 0] 32) 5) = w3 at HO3 HB3 HA3 ⊢
 go_loopw [3, 8] (fun v3 v8 wr => ∃ j : Nat, v8 = .int .i64 (j : Int) ∧ j ≤ 8 ∧ Aside0 (wr.ownsRow w.heap.size 5 1 v3 (sha_text.row (s.take j)).length (nums .u8 (sha_text.row (s.take j)))) ∧ Aside0 (Below w.heap.size w wr)) (fun _ v8 _ => 8 - (intOf v8).toNat)
 case atStart => exact ⟨0, rfl, Nat.zero_le _, HO3, HB3⟩
 case round =>
  clear HO3 HB3 HA3
  obtain ⟨j, rfl, hj, HO, HB⟩ := hrel
  by_cases hlt : j < 8
  ·have hlt' : j < s.length := by rw [HS.out]; exact hlt
   have hix := sha_text.idx (M.nums32 s) H8.out j hlt
   have hb := HLT.out _ (List.getElem_mem hlt')
   rw [show (M.nums32 s).getD j 0 = ((s[j] : Nat) : Int) from by unfold M.nums32; simp [List.getD, hlt']] at hix
   have HL := Aside0.mk (show (sha_text.row (s.take j)).length ≤ 32 from by rw [sha_text.row_len, List.length_take]; omega)
   have HX := Aside0.mk (show sha_text.row (s.take j) ++ [((s[j] : Nat) : Int) / 16777216 % 256, ((s[j] : Nat) : Int) / 65536 % 256, ((s[j] : Nat) : Int) / 256 % 256, ((s[j] : Nat) : Int) % 256] = sha_text.row (s.take (j + 1)) from by
    rw [List.take_succ_eq_append_getElem hlt', sha_text.row_app]
    rfl)
   generalize s[j] = x at hix hb HX
   generalize sha_text.row (s.take j) = xs at HO HL HX
   have g0 : (0 : Int) ≤ (j : Int) := by omega
   have g1 : (j : Int) < 8 := by omega
   obtain ⟨A3, c3, rfl⟩ := own_slice HO.out
   clear hb
   go_wp2_with (at_builtin; refine print_append_row (w0 := w) w.heap.size rfl _ _ 106 5 .u8 1 rfl Tryd.underlying106 info5 (by decide) _ xs [(x : Int) / 16777216 % 256, (x : Int) / 65536 % 256, (x : Int) / 256 % 256, (x : Int) % 256] (some ⟨wr.heap.size, 0, none⟩) 4 4 rfl rfl (HO.out.alloc _) ?hrd (below_alloc HB.out _) ?hbs ?hln ?_; (case hrd => exact sha_text.four wr 5 _ _ _ _); (case hbs => have := HB.out.size; simp; omega); (case hln => have := HL.out; omega); intro v4 w4 hO4 hB4 hg4 hat4; rw [HX.out] at hO4; have HO4 := Aside0.mk hO4; have HB4 := Aside0.mk hB4; clear hO4 hB4 hg4 hat4)
   go_roundw
   case rel => exact ⟨j + 1, by go_num, by omega, HO4, HB4⟩
   case measure => simp [intOf]; omega
  ·obtain rfl : j = 8 := by omega
   have HE := Aside0.mk (show strOfNums (sha_text.row (s.take 8)) = M.sb (M.shaText s) from by
    rw [List.take_of_length_le (Nat.le_of_eq HS.out), sha_text.row_str])
   have hconv := own_string (P := Tryd.prog) (src := 106) (dst := 9) (e := 5) (xs := sha_text.row (s.take 8)) Tryd.underlying106 (by kernel_rfl) (by kernel_rfl) HO.out
   rw [HE.out] at hconv
   go_wp2
   go_ret
   exact ⟨rfl, HB.out⟩
end Go.Proofs.YtkjbhgolillidaaDoor.EMarkNames
