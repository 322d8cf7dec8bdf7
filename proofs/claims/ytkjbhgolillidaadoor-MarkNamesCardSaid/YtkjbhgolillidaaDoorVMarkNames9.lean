-- Laid by this session's own program (wip/tools/fold.py): this session's texts, cut to what the claim names and put together; Lean checks it.
import Derived.Test.YtkjbhgolillidaaDoorVMarkNames1
import Derived.Test.YtkjbhgolillidaaDoorVMarkNames2
import Derived.Test.YtkjbhgolillidaaDoorVMarkNames5
import Derived.Test.YtkjbhgolillidaaDoorVMarkNames7
import Derived.Test.YtkjbhgolillidaaDoorVMarkNames8
import Derived.Test.YtkjbhgolillidaaDoorXMarkNames1
namespace Go.Proofs.YtkjbhgolillidaaDoor.EMarkNames
open Go.RowKit Go.Proofs.YtkjbhgolillidaaDoorW.PrintWords Go.Proofs.YtkjbhgolillidaaDoorW.PrintLast Go.Proofs.YtkjbhgolillidaaDoorW.PrintMore
attribute [local go_sem] M.run_leq M.run_gtr M.run_geq max2_int min2_int max_two min_two max_three min_three max_four min_four
set_option linter.unusedVariables false
set_option linter.unusedSimpArgs false
def slices_Sort_string_string.lay_ren : Go.Shelf.Ren := ⟨fun | 125 => 61 | 128 => 74 | 129 => 75 | 190 => 42 | 258 => 60 | 302 => 65 | 303 => 66 | 304 => 67 | 305 => 68 | 306 => 69 | 307 => 70 | 308 => 71 | 309 => 72 | 310 => 73 | 329 => 78 | 330 => 79 | 333 => 77 | 334 => 80 | 335 => 81 | 336 => 82 | 344 => 83 | n => n, fun | 0 => 0 | 3 => 3 | 4 => 4 | 5 => 5 | 9 => 9 | 31 => 23 | 46 => 114 | 51 => 104 | 53 => 96 | 131 => 64 | 182 => 120 | 183 => 121 | 218 => 130 | 222 => 134 | 228 => 136 | 229 => 137 | n => n, fun | n => n⟩
theorem slices_Sort_string_string.lay : Go.Proofs.Lays.n190 Tryd.prog slices_Sort_string_string.lay_ren := {
  mixed := by kernel_rfl
  f125 := Tryd.func61.trans (congrArg some (by kernel_rfl))
  f128 := Tryd.func74.trans (congrArg some (by kernel_rfl))
  f129 := Tryd.func75.trans (congrArg some (by kernel_rfl))
  f190 := Tryd.func42.trans (congrArg some (by kernel_rfl))
  f258 := Tryd.func60.trans (congrArg some (by kernel_rfl))
  f302 := Tryd.func65.trans (congrArg some (by kernel_rfl))
  f303 := Tryd.func66.trans (congrArg some (by kernel_rfl))
  f304 := Tryd.func67.trans (congrArg some (by kernel_rfl))
  f305 := Tryd.func68.trans (congrArg some (by kernel_rfl))
  f306 := Tryd.func69.trans (congrArg some (by kernel_rfl))
  f307 := Tryd.func70.trans (congrArg some (by kernel_rfl))
  f308 := Tryd.func71.trans (congrArg some (by kernel_rfl))
  f309 := Tryd.func72.trans (congrArg some (by kernel_rfl))
  f310 := Tryd.func73.trans (congrArg some (by kernel_rfl))
  f329 := Tryd.func78.trans (congrArg some (by kernel_rfl))
  f330 := Tryd.func79.trans (congrArg some (by kernel_rfl))
  f333 := Tryd.func77.trans (congrArg some (by kernel_rfl))
  f334 := Tryd.func80.trans (congrArg some (by kernel_rfl))
  f335 := Tryd.func81.trans (congrArg some (by kernel_rfl))
  f336 := Tryd.func82.trans (congrArg some (by kernel_rfl))
  f344 := Tryd.func83.trans (congrArg some (by kernel_rfl))
  t0 := Tryd.underlying0
  a0 := Tryd.isAgg0
  z0 := Tryd.sizeOf0
  v0 := Tryd.zeroValue0
  t3 := Tryd.underlying3
  a3 := Tryd.isAgg3
  z3 := Tryd.sizeOf3
  v3 := Tryd.zeroValue3
  t4 := Tryd.underlying4
  a4 := Tryd.isAgg4
  z4 := Tryd.sizeOf4
  v4 := Tryd.zeroValue4
  t5 := Tryd.underlying5
  a5 := Tryd.isAgg5
  z5 := Tryd.sizeOf5
  v5 := Tryd.zeroValue5
  t9 := Tryd.underlying9
  a9 := Tryd.isAgg9
  z9 := Tryd.sizeOf9
  v9 := Tryd.zeroValue9
  t31 := Tryd.underlying23
  a31 := Tryd.isAgg23
  z31 := Tryd.sizeOf23
  v31 := Tryd.zeroValue23
  t46 := Tryd.underlying114
  a46 := Tryd.isAgg114
  z46 := Tryd.sizeOf114
  v46 := Tryd.zeroValue114
  t51 := Tryd.underlying104
  a51 := Tryd.isAgg104
  z51 := Tryd.sizeOf104
  v51 := Tryd.zeroValue104
  t53 := Tryd.underlying96
  a53 := Tryd.isAgg96
  z53 := Tryd.sizeOf96
  v53 := Tryd.zeroValue96
  t131 := Tryd.underlying64
  a131 := Tryd.isAgg64
  z131 := Tryd.sizeOf64
  v131 := Tryd.zeroValue64
  t182 := Tryd.underlying120
  a182 := Tryd.isAgg120
  z182 := Tryd.sizeOf120
  v182 := Tryd.zeroValue120
  t183 := Tryd.underlying121
  a183 := Tryd.isAgg121
  z183 := Tryd.sizeOf121
  v183 := Tryd.zeroValue121
  t218 := Tryd.underlying130
  a218 := Tryd.isAgg130
  z218 := Tryd.sizeOf130
  v218 := Tryd.zeroValue130
  t222 := Tryd.underlying134
  a222 := Tryd.isAgg134
  z222 := Tryd.sizeOf134
  v222 := Tryd.zeroValue134
  t228 := Tryd.underlying136
  a228 := Tryd.isAgg136
  z228 := Tryd.sizeOf136
  v228 := Tryd.zeroValue136
  t229 := Tryd.underlying137
  a229 := Tryd.isAgg137
  z229 := Tryd.sizeOf137
  v229 := Tryd.zeroValue137 }
def slices_Sort_string_string.f (l0 : List ByteArray) : Option (List ByteArray) := if l0.length < 4611686018427387904 then some (M.sortB l0) else none
theorem slices_Sort_string_string.calls (P0_ : Nat → Prop) (u9000_ : Value) (l0 : List ByteArray) (r : List ByteArray) (w0 w : World) (hB : Below w0.heap.size w0 w) (ho0 : Kd.R Kd.string 9 w w0.heap.size P0_ u9000_ l0) (h : slices_Sort_string_string.f l0 = some r) :
    Calls Tryd.prog 42 #[u9000_] w fun e w' => e = .returned (.tuple #[]) ∧ Kd.R Kd.string 9 w' w0.heap.size (fun k_ => (P0_ k_ ∨ w.heap.size ≤ k_)) u9000_ r ∧ Below w0.heap.size w0 w' ∧ Kept w w' (fun k_ => P0_ k_) := by
 unfold slices_Sort_string_string.f at h
 split at h
 case isFalse => cases h
 case isTrue hh =>
  obtain rfl := Option.some.inj h
  exact M.sort_any slices_Sort_string_string.lay 9 P0_ u9000_ l0 w0 w hB ho0 hh
section
open Go.Maps
def slices_Sorted_string.ren : Go.Shelf.Ren := ⟨fun | 6 => 21 | 8 => 41 | 9 => 42 | 11 => 59 | n => n, fun | 0 => 0 | 24 => 23 | 26 => 9 | 28 => 69 | 33 => 30 | n => n, fun | n => n⟩
theorem slices_Sorted_string.lay : Go.Proofs.SlLaysZ.n6 Tryd.prog slices_Sorted_string.ren := {
  mixed := by kernel_rfl
  f6 := ⟨"slices.Sorted[string]", by decide +kernel, Tryd.func21.trans (congrArg some (by kernel_rfl))⟩
  f8 := ⟨"slices.Collect[string]", by decide +kernel, Tryd.func41.trans (congrArg some (by kernel_rfl))⟩
  f11 := ⟨"slices.AppendSeq[[]string,string]", by decide +kernel, Tryd.func59.trans (congrArg some (by kernel_rfl))⟩
  t0 := Tryd.underlying0
  a0 := Tryd.isAgg0
  z0 := Tryd.sizeOf0
  v0 := Tryd.zeroValue0
  t24 := Tryd.underlying23
  a24 := Tryd.isAgg23
  z24 := Tryd.sizeOf23
  v24 := Tryd.zeroValue23
  t26 := Tryd.underlying9
  a26 := Tryd.isAgg9
  z26 := Tryd.sizeOf9
  v26 := Tryd.zeroValue9
  t28 := Tryd.underlying69
  a28 := Tryd.isAgg69
  z28 := Tryd.sizeOf69
  v28 := Tryd.zeroValue69
  i26 := by kernel_rfl }
theorem slices_Sorted_string.sorts (m : Nat) : AnyZ.SortsIn Tryd.prog slices_Sorted_string.ren Fence.wide m :=
  ⟨fun blk off cap ss W hH hblk hsz => callsIn_wide.2 (Any.slices_Sort_string slices_Sort_string_string.lay blk off cap ss W hH hblk hsz),
   fun p cap W => callsIn_wide.2 (Any.slices_Sort_string_none slices_Sort_string_string.lay p cap W)⟩
def maps_Keys.ren : Go.Shelf.Ren := ⟨fun | 10 => 43 | n => n, fun | 0 => 0 | 4 => 4 | 23 => 59 | 26 => 9 | 33 => 30 | 3 => 3 | n => n, fun | n => n⟩
theorem maps_Keys.lay : Go.Proofs.SlLaysZ.n10 Tryd.prog maps_Keys.ren := {
  mixed := by kernel_rfl
  f10 := ⟨"maps.Keys[map[string]int,string,int]$1", by decide +kernel, Tryd.func43.trans (congrArg some (by kernel_rfl))⟩
  t0 := Tryd.underlying0
  a0 := Tryd.isAgg0
  z0 := Tryd.sizeOf0
  v0 := Tryd.zeroValue0
  t4 := Tryd.underlying4
  a4 := Tryd.isAgg4
  z4 := Tryd.sizeOf4
  v4 := Tryd.zeroValue4
  t23 := Tryd.underlying59
  a23 := Tryd.isAgg59
  z23 := Tryd.sizeOf59
  v23 := Tryd.zeroValue59
  t26 := Tryd.underlying9
  a26 := Tryd.isAgg9
  z26 := Tryd.sizeOf9
  v26 := Tryd.zeroValue9
  t33 := Tryd.underlying30
  a33 := Tryd.isAgg30
  z33 := Tryd.sizeOf30
  v33 := Tryd.zeroValue30 }
set_option maxHeartbeats 1000000 in
theorem slices_Sorted_string.keys (b nn : Nat) (D0 : DataW Unit) (R : Value → Option (DataW Unit × List MemPlace)) (w : World) (hown : w.ownsMap Tryd.prog 9 R b nn D0) (hmax : Maps.size D0 ≤ maxLen) (hbytes : Maps.size D0 * 16 ≤ 140737488355328) :
    Calls Tryd.prog 21 #[.func (.func 43) #[] #[.pointer (some ⟨w.heap.size, 0, none⟩)]] (w.alloc (.cells #[.map (some b)] 59)) fun e w' => ∃ (v : Value) (ss : List (List UInt8)), e = .returned v ∧ ss.Perm (strKeys D0) ∧ w'.ownsRow w.heap.size 9 1 v ss.length ((ss.mergeSort fun x y => decide (x ≤ y)).map encStr) ∧ Below w.heap.size w w' := by
 refine (callsIn_wide (n := 5)).1 ?_
 have hbl := hown.lt
 have hseq : SeqGives Fence.wide 2 Tryd.prog 43 #[.pointer (some ⟨w.heap.size, 0, none⟩)] encStr (fun ss => ss.Perm (strKeys D0)) (Maps.size D0) (w.alloc (.cells #[.map (some b)] 59)) :=
  AnyZ.keys_gives (ρ := maps_Keys.ren) maps_Keys.lay Fence.wide _ trivial rfl (by omega) w.heap.size b nn D0 _ (by simp) (by simp) (by
   obtain ⟨es, clock, hb, Ft, hs, hD⟩ := hown
   exact ⟨es, clock, (Below.heap_alloc _ _ b hbl).trans hb, Ft, hs, hD⟩)
 refine (AnyZ.sorted_in (ρ := slices_Sorted_string.ren) slices_Sorted_string.lay Fence.wide 5 trivial trivial trivial trivial rfl (by omega) (slices_Sorted_string.sorts _) (enters_of Tryd.func42 (by kernel_rfl) rfl) 43 #[.pointer (some ⟨w.heap.size, 0, none⟩)] trivial (enters_of Tryd.func43 (by kernel_rfl) rfl) _ _ hmax hbytes _ hseq).mono ?_
 rintro e w' ⟨v, ss, rfl, hS, hrow, _, hb⟩
 exact ⟨v, ss, rfl, hS, ownsRow_base_a hrow (by simp), ((Below.refl _ w).alloc (Nat.le_refl _) _).trans (hb.mono (by simp))⟩
end
theorem maps_Keys.box (b : Nat) (w : World) : Calls Tryd.prog 22 #[.map (some b)] w fun e w' => e = .returned (.func (.func 43) #[] #[.pointer (some ⟨w.heap.size, 0, none⟩)]) ∧ w' = w.alloc (.cells #[.map (some b)] 59) := by
 go_enter Tryd.func22, Tryd.ntmps22
 go_wp2
 go_ret
 exact ⟨rfl, rfl⟩
section
theorem mark_Reach.law : Maps.Keyed Tryd.prog 9 := Maps.string_keyed Tryd.underlying9
theorem mark_Reach.zero_ (w : World) : (zeroValue 3).run Tryd.prog w = .ok (.int .i64 0) w := by kernel_rfl
theorem mark_Reach.app0 {P : Program} {ops : Array Oper} {rest : List Oper} {o : Oper} {a : Act} {Q : Exit → Act → World → Prop} {W : World} (hgd : o.guard = none) (s x : Operand) (t e : TypeId)
    (ho : o.op = .call { callee := .builtin .append, args := #[s, x], argTypes := #[t, t] }) (ht : P.underlying t = some (.slice e)) (hinfo : (P.info? e).map (fun i => (i.zero, i.size, i.bytes)) = some (some (.string ByteArray.empty), 1, 16))
    (B : Addr) (d : Nat) (E : Option Addr) (f : Nat) (hs : a.eval s = .slice (some B) 0 d) (hx : a.eval x = .slice E 0 f) (h : wpList P ops Q rest (a.put o.dst (.slice (some B) 0 d)) W) : wpList P ops Q (o :: rest) a W := by
 obtain ⟨i0, hi, hzz⟩ := Option.map_eq_some_iff.1 hinfo
 simp only [Prod.mk.injEq] at hzz
 obtain ⟨hz0, hz1, hz2⟩ := hzz
 have hr : (Builtin.append_ #[t, t] o.type #[.slice (some B) 0 d, .slice E 0 f]).run P W = .ok (.slice (some B) 0 d) W := by
  cases E with
  | none => simp [Builtin.append_, run_underlying ht, sizeOf, typeInfo, hi, Builtin.lenOf, Builtin.firstCells, storeCells]
  | some ad => simp [Builtin.append_, run_underlying ht, sizeOf, typeInfo, hi, Builtin.lenOf, Builtin.firstCells, storeCells, loadCells, loadCellsFrom]
 refine wpList_plain hgd fun K hK => ?_
 unfold Oper.wp execOp
 simp only [ho, resolve, invoke, builtin, Sem.run_bind, Sem.run_pure, Result.andThen_ok, List.map_toArray, List.map_cons, List.map_nil, hs, hx, hr]
 exact hK _ _ h
theorem mark_Reach.i9 : (Tryd.prog.info? 9).map (fun i => (i.zero, i.size, i.bytes)) = some (some (.string ByteArray.empty), 1, 16) := by kernel_rfl
theorem mark_Reach.c0_ {k : Lit} {c : Int} (h : (DataW.map [] : DataW Unit).atKey k (.lit (.int .i64 0)) = .lit (.int .i64 c)) : c = 0 := by
 have h2 : (DataW.lit (Lit.int .i64 0) : DataW Unit) = .lit (.int .i64 c) := h
 injection h2 with h3
 injection h3 with _ h4
 exact h4.symm
theorem mark_Reach.row1 {W : World} {base e : Nat} {v : Value} {x : Value} (h : W.ownsRow base e 1 v 1 [x]) : ∃ B d, v = .slice (some B) 1 d ∧ W.cell? B = some x := by
 rcases id h.2 with ⟨_, hz⟩ | ⟨g, cap, cur, rfl, _, _, _, _⟩
 ·exact absurd hz (by decide)
 ·refine ⟨⟨g, 0, none⟩, cap, rfl, ?_⟩
  have := h.cells (g := g) rfl 0 x rfl
  rw [add_plain] at this
  exact this
theorem mark_Reach.keys_ (k : List UInt8) (v : DataW Unit) : strKeys ((DataW.map []).put (.string k) v) = [k] := rfl
theorem mark_Reach.size_ (k : List UInt8) (v : DataW Unit) : Maps.size ((DataW.map []).put (.string k) v) = 1 := rfl
theorem mark_Reach.cl (A : Option Addr) (c : Nat) (name : ByteArray) (w : World) (hr : Kd.C Kd.string w A 1 [name]) (hc : 1 ≤ c) :
    Calls Tryd.prog 14 #[.slice A 1 c] w fun e w' => ∃ B d, e = .returned (.slice (some B) 1 d) ∧ w'.cell? B = some (.string name) ∧ Below w.heap.size w w' := by
 refine (slices_Clone_string_string.calls A c [name] [name] w hr hc (by unfold slices_Clone_string_string.f; rw [if_pos (by simp)])).mono ?_
 rintro e w' ⟨v, rfl, ho, hb⟩
 obtain ⟨B, d, rfl⟩ := Kd.R_slice ho
 obtain ⟨ad, hA, hcell⟩ := Kd.at_string (Kd.R_reads' ho).2.2 (0 : Int) (by decide) (by simp)
 subst hA
 refine ⟨ad, d, rfl, ?_, hb⟩
 have e0 : ad.add (0 : Int).toNat = ad := by cases ad; rfl
 rw [e0] at hcell
 exact hcell
theorem mark_Reach.tk : chunk_Take.res ⟨#[76, 0]⟩ = (0, [], [], 0) := by kernel_rfl
theorem mark_Reach.nm (w : World) : Calls Tryd.prog 5 #[.string ⟨#[76, 0]⟩] w fun e w' => ∃ A c, e = .returned (.tuple #[.slice A 0 c, .int .i64 0]) ∧ Below w.heap.size w w' := by
 refine (mark_Names.calls 9 ⟨#[76, 0]⟩ [] 0 w ?_).mono ?_
 ·unfold mark_Names.f
  rw [if_neg (by decide +kernel), if_pos (by decide), if_pos (by decide +kernel), mark_Names.j0, if_pos (by decide +kernel)]
  unfold chunk_Take.f
  rw [if_pos (by decide), mark_Reach.tk, Option.bind_some, mark_Names.l0, if_neg (by decide), mark_Names.j2]
  rfl
 ·rintro e w' ⟨v, rfl, ho, hb⟩
  obtain ⟨A, c, rfl⟩ := Kd.R_slice ho
  exact ⟨A, c, rfl, hb⟩
theorem mark_Reach.gt (base g : Nat) (F : Nat → Prop) (s : M.SS) (name : ByteArray) (hg : s.get name = (⟨#[76, 0]⟩, true)) (hz : name.size ≤ 9223372036854775807) (w : World) (hS : M.Sh Tryd.prog base w g F s) :
    Calls Tryd.prog 20 #[.pointer (some ⟨g, 0, none⟩), .string name] w fun e w' => e = .returned (.tuple #[.string ⟨#[76, 0]⟩, .bool true]) ∧ w = w' := by
 have h := shelf_Shelf_Get.all_ base g F s name w hS hz
 rw [hg] at h
 exact h
set_option maxHeartbeats 8000000 in
set_option maxRecDepth 100000 in
theorem mark_Reach.one (base g : Nat) (F : Nat → Prop) (s : M.SS) (name : ByteArray) (hg : s.get name = (⟨#[76, 0]⟩, true)) (hz : name.size ≤ 1000) (A : Option Addr) (c : Nat) (w : World) (hS : M.Sh Tryd.prog base w g F s) (hr : Kd.C Kd.string w A 1 [name]) (hc : 1 ≤ c) :
    Calls Tryd.prog 10 #[.pointer (some ⟨g, 0, none⟩), .slice A 1 c] w fun e w' => ∃ B d, e = .returned (.tuple #[.slice (some B) 1 d, .int .i64 0]) ∧ w'.cell? B = some (.string name) ∧ Below w.heap.size w w' := by
 have hmm := @run_makeMap Tryd.prog
 have hKEY := Go.WideMaps.keyOf_string_mk Tryd.underlying9 (show name.size ≤ maxLen from by unfold maxLen; omega)
 obtain ⟨W0, hW0⟩ : ∃ W0, w.alloc (.map #[] 0) = W0 := ⟨_, rfl⟩
 have hB0 : Below w.heap.size w W0 := by rw [← hW0]; exact below_alloc (Below.refl _ _) _
 have HO0 := Aside0.mk (show W0.ownsMap Tryd.prog 9 (plainElem (H := Unit) Tryd.prog 3) w.heap.size 0 (.map []) from by rw [← hW0]; exact World.ownsMap_made _ _ _ _)
 have HB0 := Aside0.mk hB0
 have HS0 := Aside0.mk (hS.below hB0)
 have HR0 := Aside0.mk (Kd.C_below hr hB0)
 have HG := Aside0.mk hg
 have HW0 := Aside0.mk hW0
 have hz2 : name.size ≤ 9223372036854775807 := by omega
 clear hS hr hg hB0 hW0
 go_enter Tryd.func10, Tryd.ntmps10
 go_upto_region 2 with (fail)
 rw [HW0.out]
 go_wp2_with (go_at_call 14; (with_reducible refine (mark_Reach.cl A c name _ HR0.out hc).mono ?_); rintro e w1 ⟨B, d, rfl, hcell, hb⟩; have HC1 := Aside0.mk hcell; have HB1 := Aside0.mk (below_step HB0.out hb); have HO1 := Aside0.mk (HO0.out.kept (grown_of_below hb none) (by simp)); have HS1 := Aside0.mk (HS0.out.below hb); clear hcell hb)
 go_loopg [7] (1) (fun kq v7 wr => (Aside0 (kq = 1) ∧ v7 = .slice (some B) 1 d ∧ w1 = wr) ∨ (∃ C e, v7 = .slice C 0 e ∧ Aside0 (Below w.heap.size w wr) ∧ Aside0 (wr.ownsMap Tryd.prog 9 (plainElem (H := Unit) Tryd.prog 3) w.heap.size 1 ((DataW.map []).put (.string name.data.toList) (.lit (.int .i64 1))))))
 case atStart => exact .inl ⟨⟨rfl⟩, rfl, rfl⟩
 case round =>
  rcases hrel with ⟨hkq, rfl, rfl⟩ | ⟨C, e, rfl, HB, HO⟩
  ·have q0 := HC1.out
   have hown := HO1.out
   go_wp2_with (first | (at_lookup; refine wpList_lookup_own_int _ rfl _ _ 59 rfl 9 3 .i64 mark_Reach.law Tryd.underlying59 Tryd.underlying3 (mark_Reach.zero_ _) w.heap.size 0 (.map []) rfl hown _ _ rfl hKEY ?_; intro c0 hat hwc; obtain rfl := mark_Reach.c0_ hat) | (go_at_call 20; (with_reducible refine (mark_Reach.gt base g F s name HG.out hz2 _ HS1.out).mono ?_); rintro e w2 ⟨rfl, rfl⟩) | (go_at_call 5; (with_reducible refine (mark_Reach.nm _).mono ?_); rintro e w3 ⟨E, f, rfl, hb⟩; have HB3 := Aside0.mk (below_step HB1.out hb); have hown3 := HO1.out.kept (grown_of_below hb none) (by simp); clear hb) | (at_mapUpdate; refine wpList_mapUpdate_own _ rfl _ _ _ 59 rfl 9 3 mark_Reach.law Tryd.underlying59 _ w.heap.size 0 _ rfl hown3 (by unfold maxLen; omega) _ _ _ rfl rfl hKEY _ [] (plainElem_int Tryd.underlying3 (WalkArith.wf_i64 (by decide))) ?_; intro w4 hown4 hgrow4; have HB4 := Aside0.mk (HB3.out.grown hgrow4 HB3.out.size (fun j hj => by cases hj; exact Nat.le_refl _)); clear hown3 hgrow4) | ((with_reducible refine gate_builtin (b := .append) (xs := #[.tmp 51, .tmp 52]) rfl ?_); at_builtin; refine mark_Reach.app0 rfl (.tmp 51) (.tmp 52) 23 9 rfl Tryd.underlying23 mark_Reach.i9 B d E f rfl rfl ?_))
   go_roundg 0
   case measure => have := hkq.out; omega
   case rel => exact .inr ⟨some B, d, rfl, HB4, ⟨hown4⟩⟩
  ·have hown := HO.out
   go_wp2_with (first | (go_at_call 22; (with_reducible refine (maps_Keys.box w.heap.size _).mono ?_); rintro e w5 ⟨rfl, rfl⟩) | (go_at_call 21; (with_reducible refine (slices_Sorted_string.keys w.heap.size 1 _ _ _ hown ?hm ?hb).mono ?_); (case hm => rw [mark_Reach.size_]; decide); (case hb => rw [mark_Reach.size_]; decide); rintro e w6 ⟨v, ss, rfl, hS, hrow, hb⟩))
   go_ret2
   obtain rfl : ss = [name.data.toList] := List.perm_singleton.1 (by rw [mark_Reach.keys_] at hS; exact hS)
   have hrow2 : w6.ownsRow wr.heap.size 9 1 v 1 [encStr name.data.toList] := by simpa using hrow
   obtain ⟨B2, d2, rfl, hcell⟩ := mark_Reach.row1 hrow2
   refine ⟨B2, d2, rfl, ?_, below_step HB.out hb⟩
   rw [hcell]
end
def pleachlaw39_awake.f : Option Bool := some true
theorem pleachlaw39_awake.put1 : M.SS.none_.put ⟨#[76, 0]⟩ = (M.shaSum ⟨#[76, 0]⟩, 0, ⟨[⟨#[76, 0]⟩], ByteArray.empty, ByteArray.empty⟩) := by
 unfold M.SS.put
 rw [if_neg (by decide +kernel), if_neg (by decide)]
 rfl
theorem pleachlaw39_awake.get1 : (⟨[⟨#[76, 0]⟩], ByteArray.empty, ByteArray.empty⟩ : M.SS).get (M.shaSum ⟨#[76, 0]⟩) = (⟨#[76, 0]⟩, true) := by
 unfold M.SS.get
 have h : M.idx (([⟨#[76, 0]⟩] : List ByteArray).map M.shaSum) (M.shaSum ⟨#[76, 0]⟩).data.toList = some 0 := by
  unfold M.idx
  rw [List.map_cons, List.findIdx?_cons, decide_eq_true rfl]
  rfl
 simp only [h]
 rfl
theorem pleachlaw39_awake.p1 (base g : Nat) (F : Nat → Prop) (s : ByteArray) (hs : M.shaSum ⟨#[76, 0]⟩ = s) (w : World) (hS : M.Sh Tryd.prog base w g F M.SS.none_) (hT : M.stab w) :
    Calls Tryd.prog 9 #[.pointer (some ⟨g, 0, none⟩), .string ⟨#[76, 0]⟩] w fun e w' => e = .returned (.tuple #[.string s, .int .i64 0]) ∧ M.ShTo Tryd.prog base w g F ⟨[⟨#[76, 0]⟩], ByteArray.empty, ByteArray.empty⟩ w' := by
 have h := shelf_Shelf_Put.any base g F M.SS.none_ ⟨#[76, 0]⟩ w hS hT (by decide) (by decide)
 rw [pleachlaw39_awake.put1] at h
 rw [← hs]
 exact h
theorem pleachlaw39_awake.rd (s : ByteArray) (w : World) (W : World) (h : W = w.alloc (.cells #[.string s] 9)) : Kd.C Kd.string W (some ⟨w.heap.size, 0, none⟩) 1 [s] := by
 subst h
 refine Kd.C_of_reads (enc := Value.string) (d := ByteArray.empty) (h1 := fun _ => rfl) ⟨rfl, by decide, fun _ => ⟨⟨w.heap.size, 0, none⟩, rfl, fun j hj => ?_⟩⟩
 obtain rfl : j = 0 := by omega
 exact M.blk_cell (heap_alloc_new w (.cells #[.string s] 9)) 0 _ rfl
set_option maxHeartbeats 8000000 in
set_option maxRecDepth 100000 in
theorem pleachlaw39_awake.walk (w : World) (hT : M.stab w) : Calls Tryd.prog 4 #[] w fun e w' => e = .returned (.bool true) ∧ Below w.heap.size w w' := by
 have HT := Aside0.mk hT
 obtain ⟨s, hs⟩ : ∃ s, M.shaSum ⟨#[76, 0]⟩ = s := ⟨_, rfl⟩
 have HQ := Aside0.mk hs
 have HG := Aside0.mk (show (⟨[⟨#[76, 0]⟩], ByteArray.empty, ByteArray.empty⟩ : M.SS).get s = (⟨#[76, 0]⟩, true) from hs ▸ pleachlaw39_awake.get1)
 have hlt := Aside0.mk (M.stab_lt hT)
 have hz : s.size ≤ 1000 := by rw [← hs, M.shaSum_size]; decide
 have hne : s ≠ ByteArray.empty := fun e => by have := M.shaSum_size ⟨#[76, 0]⟩; rw [hs, e] at this; exact absurd this (by decide)
 have hd0 := M.nonempty hne
 have H1s : (s.toList == s.toList) = true := by simp
 clear hT hs hne
 go_enter Tryd.func4, Tryd.ntmps4
 go_wp2_with (first | (go_at_call 8; (with_reducible refine (shelf_New.any _).mono ?_); rintro e w1 ⟨g, F, rfl, hs1, hb1⟩; have HS1 := Aside0.mk hs1; have HB1 := Aside0.mk hb1; have HT1 := Aside0.mk (M.stab_below HT.out hb1 hlt.out); clear hs1 hb1) | (go_at_call 9; (with_reducible refine (pleachlaw39_awake.p1 w.heap.size g F s HQ.out _ HS1.out HT1.out).mono ?_); rintro e w2 ⟨rfl, F2, hs2, hf2, hk2, hb2⟩; have HS2 := Aside0.mk hs2; have HB2 := Aside0.mk (HB1.out.trans hb2); clear HS1 hs2 hf2 hk2 hb2) | (go_at_call 10; (with_reducible refine (mark_Reach.one w.heap.size g F2 _ s HG.out hz _ 1 _ ?hS ?hr (Nat.le_refl _)).mono ?_); (case hS => exact HS2.out.below (below_alloc (Below.refl _ _) _)); (case hr => exact pleachlaw39_awake.rd s w2 _ rfl); rintro e w4 ⟨B, d, rfl, hc4, hb4⟩; have q4 := hc4; have HB4 := Aside0.mk (below_step (below_alloc HB2.out _) hb4); clear hc4 hb4))
 go_ret
 exact ⟨rfl, HB4.out⟩
theorem pleachlaw39_awake.calls (r : Bool) (w : World) (hT : M.stab w) (h : pleachlaw39_awake.f = some r) : Calls Tryd.prog 4 #[] w fun e w' => e = .returned (.bool r) ∧ Below w.heap.size w w' := by
 obtain rfl := Option.some.inj h
 exact pleachlaw39_awake.walk w hT
def pleachref04_fix_p.f (a0_0 : ByteArray) (a0_1 : Int) (a0_2 : Int) (a1 : Int) : Option (ByteArray × Int × Int × ByteArray) := if a0_2 = 0 then (if a1 < 0 then (some (a0_0, a0_1, 3, (⟨#[]⟩ : ByteArray))) else (if a1 > (wrap64 ((a0_0.size : Int) - a0_1)) then (some (a0_0, a0_1, 3, (⟨#[]⟩ : ByteArray))) else (if 0 ≤ a0_1 then (if a0_1 ≤ (wrap64 (a0_1 + a1)) then (if (wrap64 (a0_1 + a1)) ≤ (a0_0.size : Int) then (some (a0_0, wrap64 (a0_1 + a1), a0_2, a0_0.extract (a0_1 : Int).toNat ((wrap64 (a0_1 + a1)) : Int).toNat)) else (none)) else (none)) else (none)))) else (some (a0_0, a0_1, a0_2, (⟨#[]⟩ : ByteArray)))
set_option maxHeartbeats 8000000 in
set_option maxRecDepth 100000 in
theorem pleachref04_fix_p.calls (a0_0 : ByteArray) (a0_1 : Int) (a0_2 : Int) (a1 : Int) (r1 : ByteArray) (r2 : Int) (r3 : Int) (r4 : ByteArray) (w : World) (h : pleachref04_fix_p.f a0_0 a0_1 a0_2 a1 = some (r1, r2, r3, r4)) :
    Calls Tryd.prog 50 #[.agg #[.string a0_0, .int .i64 a0_1, .int .i64 a0_2], .int .i64 a1] w fun e w' => e = .returned (.tuple #[.agg #[.string r1, .int .i64 r2, .int .i64 r3], .string r4]) ∧ Below w.heap.size w w' := by
 have hu81 := Tryd.underlying81
 have HB := Aside0.mk (Below.refl w.heap.size w)
 have H : (if a0_2 = 0 then (if a1 < 0 then (some (a0_0, a0_1, 3, (⟨#[]⟩ : ByteArray))) else (if a1 > (wrap64 ((a0_0.size : Int) - a0_1)) then (some (a0_0, a0_1, 3, (⟨#[]⟩ : ByteArray))) else (if 0 ≤ a0_1 then (if a0_1 ≤ (wrap64 (a0_1 + a1)) then (if (wrap64 (a0_1 + a1)) ≤ (a0_0.size : Int) then (some (a0_0, wrap64 (a0_1 + a1), a0_2, a0_0.extract (a0_1 : Int).toNat ((wrap64 (a0_1 + a1)) : Int).toNat)) else (none)) else (none)) else (none)))) else (some (a0_0, a0_1, a0_2, (⟨#[]⟩ : ByteArray)))) = some (r1, r2, r3, r4) := h
 clear h
 by_cases c3 : a0_2 = 0
 ·rw [if_pos c3] at H
  have c3b0 : (a0_2 == 0) = true := beq_iff_eq.mpr c3
  have c3b1 : (a0_2 != 0) = false := bne_eq_false_iff_eq.mpr c3
  clear c3
  by_cases c4 : a1 < 0
  ·rw [if_pos c4] at H
   have c4b0 := decide_eq_true c4
   clear c4
   simp only [Option.some.injEq, Prod.mk.injEq] at H
   obtain ⟨rfl, rfl, rfl, rfl⟩ := H
   go_enter Tryd.func50, Tryd.ntmps50
   go_wp2_with (first | ((with_reducible refine gate_dst (N := 2) rfl ?_); (try (refine gate_guard (by rfl) ?_; dsimp only)); refine M.bx 2 81 (#[.string a0_0, .int .i64 a0_1, .int .i64 a0_2]) ?_; intro zaa hg w5 hbox hb; have zab := Aside0.mk (hbox); have zac := M.upG HB hg; have zad := M.upG HB hg; replace HB := M.upS HB hb; clear hb hbox hg) | ((with_reducible refine gate_dst (N := 4) rfl ?_); (try (refine gate_guard (by rfl) ?_; dsimp only)); refine M.bx 4 81 (#[.string (⟨#[]⟩ : ByteArray), .int .i64 0, .int .i64 0]) ?_; intro zae hg w6 hbox hb; have zaf := Aside0.mk (hbox); have zag := M.upG HB hg; have zah := M.upG HB hg; replace HB := M.upS HB hb; have zai := M.bkL zab hg; have zaj := M.bkG zab hg; replace zab := M.bkB zab hb; clear hb hbox hg; have zak := zai.out; have zal := zaj.out; obtain ⟨zam, zan, zao⟩ := M.bc3 (w := w6) (a := .string a0_0) (b := .int .i64 a0_1) (c := .int .i64 a0_2) zab.out; obtain ⟨zap, zaq, zar⟩ := M.bf3 zab; obtain ⟨zas, zat, zau⟩ := M.bc3 (w := w6) (a := .string (⟨#[]⟩ : ByteArray)) (b := .int .i64 0) (c := .int .i64 0) zaf.out; obtain ⟨zav, zaw, zax⟩ := M.bf3 zaf))
   refine bodyPost_ret (results_ct rfl _ _ zae 81 #[.string a0_0, .int .i64 a0_1, .int .i64 3] (0, 0) _ rfl (by refine M.fp (cs := #[.string a0_0, .int .i64 a0_1, .int .i64 0]) ?_ 2; refine M.fp (cs := #[.string a0_0, .int .i64 0, .int .i64 0]) ?_ 1; refine M.fp (cs := #[.string (⟨#[]⟩ : ByteArray), .int .i64 0, .int .i64 0]) ?_ 0; refine M.fr ?_ zaj; exact M.bk zaf) Tryd.underlying81 rfl (by kernel_rfl)) rfl ?_
   exact M.fin (M.up HB)
  ·rw [if_neg c4] at H
   have c4b0 := decide_eq_false c4
   clear c4
   by_cases c10 : a1 > (wrap64 ((a0_0.size : Int) - a0_1))
   ·rw [if_pos c10] at H
    have c10b0 := decide_eq_true c10
    clear c10
    simp only [Option.some.injEq, Prod.mk.injEq] at H
    obtain ⟨rfl, rfl, rfl, rfl⟩ := H
    go_enter Tryd.func50, Tryd.ntmps50
    go_wp2_with (first | ((with_reducible refine gate_dst (N := 2) rfl ?_); (try (refine gate_guard (by rfl) ?_; dsimp only)); refine M.bx 2 81 (#[.string a0_0, .int .i64 a0_1, .int .i64 a0_2]) ?_; intro zaa hg w11 hbox hb; have zab := Aside0.mk (hbox); have zac := M.upG HB hg; have zad := M.upG HB hg; replace HB := M.upS HB hb; clear hb hbox hg) | ((with_reducible refine gate_dst (N := 4) rfl ?_); (try (refine gate_guard (by rfl) ?_; dsimp only)); refine M.bx 4 81 (#[.string (⟨#[]⟩ : ByteArray), .int .i64 0, .int .i64 0]) ?_; intro zae hg w12 hbox hb; have zaf := Aside0.mk (hbox); have zag := M.upG HB hg; have zah := M.upG HB hg; replace HB := M.upS HB hb; have zai := M.bkL zab hg; have zaj := M.bkG zab hg; replace zab := M.bkB zab hb; clear hb hbox hg; have zay := zai.out; have zaz := zaj.out; obtain ⟨zaA, zaB, zaC⟩ := M.bc3 (w := w12) (a := .string a0_0) (b := .int .i64 a0_1) (c := .int .i64 a0_2) zab.out; obtain ⟨zaD, zaE, zaF⟩ := M.bf3 zab; obtain ⟨zaG, zaH, zaI⟩ := M.bc3 (w := w12) (a := .string (⟨#[]⟩ : ByteArray)) (b := .int .i64 0) (c := .int .i64 0) zaf.out; obtain ⟨zaJ, zaK, zaL⟩ := M.bf3 zaf))
    refine bodyPost_ret (results_ct rfl _ _ zae 81 #[.string a0_0, .int .i64 a0_1, .int .i64 3] (0, 0) _ rfl (by refine M.fp (cs := #[.string a0_0, .int .i64 a0_1, .int .i64 0]) ?_ 2; refine M.fp (cs := #[.string a0_0, .int .i64 0, .int .i64 0]) ?_ 1; refine M.fp (cs := #[.string (⟨#[]⟩ : ByteArray), .int .i64 0, .int .i64 0]) ?_ 0; refine M.fr ?_ zaj; exact M.bk zaf) Tryd.underlying81 rfl (by kernel_rfl)) rfl ?_
    exact M.fin (M.up HB)
   ·rw [if_neg c10] at H
    have c10b0 := decide_eq_false c10
    clear c10
    by_cases c16 : 0 ≤ a0_1
    ·rw [if_pos c16] at H
     have c16b0 := eq_true c16
     have c16b1 := decide_eq_true c16
     clear c16
     by_cases c17 : a0_1 ≤ (wrap64 (a0_1 + a1))
     ·rw [if_pos c17] at H
      have c17b0 := eq_true c17
      have c17b1 := decide_eq_true c17
      by_cases c18 : (wrap64 (a0_1 + a1)) ≤ (a0_0.size : Int)
      ·rw [if_pos c18] at H
       have c18b0 := eq_true c18
       have c18b1 := decide_eq_true c18
       simp only [Option.some.injEq, Prod.mk.injEq] at H
       obtain ⟨rfl, rfl, rfl, rfl⟩ := H
       go_enter Tryd.func50, Tryd.ntmps50
       go_wp2_with (first | ((with_reducible refine gate_dst (N := 2) rfl ?_); (try (refine gate_guard (by rfl) ?_; dsimp only)); refine M.bx 2 81 (#[.string a0_0, .int .i64 a0_1, .int .i64 a0_2]) ?_; intro zaa hg w19 hbox hb; have zab := Aside0.mk (hbox); have zac := M.upG HB hg; have zad := M.upG HB hg; replace HB := M.upS HB hb; clear hb hbox hg) | ((with_reducible refine gate_dst (N := 4) rfl ?_); (try (refine gate_guard (by rfl) ?_; dsimp only)); refine M.bx 4 81 (#[.string (⟨#[]⟩ : ByteArray), .int .i64 0, .int .i64 0]) ?_; intro zae hg w20 hbox hb; have zaf := Aside0.mk (hbox); have zag := M.upG HB hg; have zah := M.upG HB hg; replace HB := M.upS HB hb; have zai := M.bkL zab hg; have zaj := M.bkG zab hg; replace zab := M.bkB zab hb; clear hb hbox hg; have zaM := zai.out; have zaN := zaj.out; obtain ⟨zaO, zaP, zaQ⟩ := M.bc3 (w := w20) (a := .string a0_0) (b := .int .i64 a0_1) (c := .int .i64 a0_2) zab.out; obtain ⟨zaR, zaS, zaT⟩ := M.bf3 zab; obtain ⟨zaU, zaV, zaW⟩ := M.bc3 (w := w20) (a := .string (⟨#[]⟩ : ByteArray)) (b := .int .i64 0) (c := .int .i64 0) zaf.out; obtain ⟨zaX, zaY, zaZ⟩ := M.bf3 zaf))
       refine bodyPost_ret (results_ct rfl _ _ zae 81 #[.string a0_0, .int .i64 (wrap64 (a0_1 + a1)), .int .i64 a0_2] (0, 0) _ rfl (by refine M.fp (cs := #[.string a0_0, .int .i64 (wrap64 (a0_1 + a1)), .int .i64 0]) ?_ 2; refine M.fp (cs := #[.string a0_0, .int .i64 0, .int .i64 0]) ?_ 1; refine M.fp (cs := #[.string (⟨#[]⟩ : ByteArray), .int .i64 0, .int .i64 0]) ?_ 0; refine M.fr ?_ zaj; exact M.bk zaf) Tryd.underlying81 rfl (by kernel_rfl)) rfl ?_
       exact M.fin (M.up HB)
      ·exact M.nf c18 H
     ·exact M.nf c17 H
    ·exact M.nf c16 H
 ·rw [if_neg c3] at H
  have c3b0 : (a0_2 == 0) = false := beq_eq_false_iff_ne.mpr c3
  have c3b1 : (a0_2 != 0) = true := bne_iff_ne.mpr c3
  simp only [Option.some.injEq, Prod.mk.injEq] at H
  obtain ⟨rfl, rfl, rfl, rfl⟩ := H
  go_enter Tryd.func50, Tryd.ntmps50
  go_wp2_with (first | ((with_reducible refine gate_dst (N := 2) rfl ?_); (try (refine gate_guard (by rfl) ?_; dsimp only)); refine M.bx 2 81 (#[.string a0_0, .int .i64 a0_1, .int .i64 a0_2]) ?_; intro zaa hg w24 hbox hb; have zab := Aside0.mk (hbox); have zac := M.upG HB hg; have zad := M.upG HB hg; replace HB := M.upS HB hb; clear hb hbox hg) | ((with_reducible refine gate_dst (N := 4) rfl ?_); (try (refine gate_guard (by rfl) ?_; dsimp only)); refine M.bx 4 81 (#[.string (⟨#[]⟩ : ByteArray), .int .i64 0, .int .i64 0]) ?_; intro zae hg w25 hbox hb; have zaf := Aside0.mk (hbox); have zag := M.upG HB hg; have zah := M.upG HB hg; replace HB := M.upS HB hb; have zai := M.bkL zab hg; have zaj := M.bkG zab hg; replace zab := M.bkB zab hb; clear hb hbox hg; have za0 := zai.out; have za1 := zaj.out; obtain ⟨za2, za3, za4⟩ := M.bc3 (w := w25) (a := .string a0_0) (b := .int .i64 a0_1) (c := .int .i64 a0_2) zab.out; obtain ⟨za5, za6, za7⟩ := M.bf3 zab; obtain ⟨za8, za9, zba⟩ := M.bc3 (w := w25) (a := .string (⟨#[]⟩ : ByteArray)) (b := .int .i64 0) (c := .int .i64 0) zaf.out; obtain ⟨zbb, zbc, zbd⟩ := M.bf3 zaf))
  refine bodyPost_ret (results_ct rfl _ _ zae 81 #[.string a0_0, .int .i64 a0_1, .int .i64 a0_2] (0, 0) _ rfl (by refine M.fp (cs := #[.string a0_0, .int .i64 a0_1, .int .i64 0]) ?_ 2; refine M.fp (cs := #[.string a0_0, .int .i64 0, .int .i64 0]) ?_ 1; refine M.fp (cs := #[.string (⟨#[]⟩ : ByteArray), .int .i64 0, .int .i64 0]) ?_ 0; exact M.bk zaf) Tryd.underlying81 rfl (by kernel_rfl)) rfl ?_
  exact M.fin (M.up HB)
def pleachref04_fix.f (a0_0 : ByteArray) (a0_1 : Int) (a0_2 : Int) (a1 : Int) : Option (ByteArray × Int × Int × ByteArray) :=
  if M.sok a0_0 a0_1 ∧ -9223372036854775808 ≤ a1 ∧ a1 ≤ 9223372036854775807 then some (a0_0, (M.xfix a0_0 a0_1 a0_2 a1).2.1, (M.xfix a0_0 a0_1 a0_2 a1).2.2, (M.xfix a0_0 a0_1 a0_2 a1).1) else none
theorem pleachref04_fix.ev (s : ByteArray) (p er n : Int) (r : ByteArray × Int × Int × ByteArray) (h : pleachref04_fix.f s p er n = some r) : pleachref04_fix_p.f s p er n = some r := by
 unfold pleachref04_fix.f at h
 split at h
 case isFalse => cases h
 case isTrue hh =>
  obtain ⟨hs, hn, hn'⟩ := hh
  unfold pleachref04_fix_p.f
  rw [← h]
  unfold M.xfix
  by_cases he : er = 0
  ·subst he
   have hc := M.fix_code s hs hn hn'
   simp only [if_true] at hc ⊢
   generalize M.sfix s p n = q at hc ⊢
   revert hc
   (repeat' split) <;> intro hc <;> first | (cases hc; rfl) | (cases hc; done)
  ·simp only [if_neg he]; rfl
theorem pleachref04_fix.calls (a0_0 : ByteArray) (a0_1 : Int) (a0_2 : Int) (a1 : Int) (r1 : ByteArray) (r2 : Int) (r3 : Int) (r4 : ByteArray) (w : World) (h : pleachref04_fix.f a0_0 a0_1 a0_2 a1 = some (r1, r2, r3, r4)) :
    Calls Tryd.prog 50 #[.agg #[.string a0_0, .int .i64 a0_1, .int .i64 a0_2], .int .i64 a1] w fun e w' => e = .returned (.tuple #[.agg #[.string r1, .int .i64 r2, .int .i64 r3], .string r4]) ∧ Below w.heap.size w w' := by
 exact pleachref04_fix_p.calls (w := w) (h := pleachref04_fix.ev _ _ _ _ _ h)
def pleachref04_Byte_p.f (a0_0 : ByteArray) (a0_1 : Int) (a0_2 : Int) : Option (ByteArray × Int × Int × Int) := (pleachref04_fix.f a0_0 a0_1 a0_2 1).bind fun bt295 => (if bt295.2.2.1 = 0 then (if 0 < (bt295.2.2.2.size : Int) then (some (bt295.1, bt295.2.1, bt295.2.2.1, wrap64 (bt bt295.2.2.2 0))) else (none)) else (some (bt295.1, bt295.2.1, bt295.2.2.1, 0)))
set_option maxHeartbeats 8000000 in
set_option maxRecDepth 100000 in
theorem pleachref04_Byte_p.calls (a0_0 : ByteArray) (a0_1 : Int) (a0_2 : Int) (r1 : ByteArray) (r2 : Int) (r3 : Int) (r4 : Int) (w : World) (h : pleachref04_Byte_p.f a0_0 a0_1 a0_2 = some (r1, r2, r3, r4)) :
    Calls Tryd.prog 32 #[.agg #[.string a0_0, .int .i64 a0_1, .int .i64 a0_2]] w fun e w' => e = .returned (.tuple #[.agg #[.string r1, .int .i64 r2, .int .i64 r3], .int .i64 r4]) ∧ Below w.heap.size w w' := by
 have hu81 := Tryd.underlying81
 have HB := Aside0.mk (Below.refl w.heap.size w)
 have H : ((pleachref04_fix.f a0_0 a0_1 a0_2 1).bind fun bt295 => (if bt295.2.2.1 = 0 then (if 0 < (bt295.2.2.2.size : Int) then (some (bt295.1, bt295.2.1, bt295.2.2.1, wrap64 (bt bt295.2.2.2 0))) else (none)) else (some (bt295.1, bt295.2.1, bt295.2.2.1, 0)))) = some (r1, r2, r3, r4) := h
 clear h
 replace H := Option.bind_eq_some_iff.mp H
 obtain ⟨⟨t295, t296, t297, t298⟩, A20, H⟩ := H
 replace H : (if t297 = 0 then (if 0 < (t298.size : Int) then (some (t295, t296, t297, wrap64 (bt t298 0))) else (none)) else (some (t295, t296, t297, 0))) = some (r1, r2, r3, r4) := H
 have A2 := Aside0.mk A20
 clear A20
 by_cases c3 : t297 = 0
 ·rw [if_pos c3] at H
  have c3b0 : (t297 == 0) = true := beq_iff_eq.mpr c3
  have c3b1 : (t297 != 0) = false := bne_eq_false_iff_eq.mpr c3
  clear c3
  by_cases c4 : 0 < (t298.size : Int)
  ·rw [if_pos c4] at H
   have c4b0 := decide_eq_true c4
   have c4b1 : decide (0 < t298.size) = true := decide_eq_true (by omega)
   clear c4
   simp only [Option.some.injEq, Prod.mk.injEq] at H
   obtain ⟨rfl, rfl, rfl, rfl⟩ := H
   go_enter Tryd.func32, Tryd.ntmps32
   try go_wp2_with (first | ((with_reducible refine gate_dst (N := 1) rfl ?_); refine M.bx 1 81 (#[.string a0_0, .int .i64 a0_1, .int .i64 a0_2]) ?_; intro zbe hg w6 hbox hb; have zbf := Aside0.mk (hbox); have zbg := M.upG HB hg; have zbh := M.upG HB hg; replace HB := M.upS HB hb; clear hb hbox hg) | ((with_reducible refine gate_dst (N := 2) rfl ?_); refine M.bx 2 81 (#[.string (⟨#[]⟩ : ByteArray), .int .i64 0, .int .i64 0]) ?_; intro zbi hg w7 hbox hb; have zbj := Aside0.mk (hbox); have zbk := M.upG HB hg; have zbl := M.upG HB hg; replace HB := M.upS HB hb; have zbm := M.bkL zbf hg; have zbn := M.bkG zbf hg; replace zbf := M.bkB zbf hb; clear hb hbox hg; have zbo := zbm.out; have zbp := zbn.out; obtain ⟨zas, zat, zau⟩ := M.bc3 (w := w7) (a := .string a0_0) (b := .int .i64 a0_1) (c := .int .i64 a0_2) zbf.out; obtain ⟨zav, zaw, zax⟩ := M.bf3 zbf) | ((with_reducible refine gate_callee (f := 50) rfl ?_); refine M.goes (some 7) Tryd.func50 #[.agg #[.string a0_0, .int .i64 a0_1, .int .i64 a0_2], .int .i64 1] rfl ?_; (with_reducible refine (pleachref04_fix.calls a0_0 a0_1 a0_2 1 t295 t296 t297 t298 _ A2.out).mono ?_); rintro e w10 ⟨rfl, hb⟩; refine ⟨_, rfl, ?_⟩; replace zbf := M.bkB zbf hb; replace zbj := M.bkB zbj hb; replace HB := M.upS HB hb; (try clear hb); obtain ⟨zbq, zbr, zbs⟩ := M.bc3 (w := w10) (a := .string a0_0) (b := .int .i64 a0_1) (c := .int .i64 a0_2) zbf.out; obtain ⟨zbt, zbu, zbv⟩ := M.bf3 zbf))
   have n0_ : Aside0 ((((w10.setCell ⟨zbe, 0, none⟩ (.string t295)).setCell ⟨zbe, 1, none⟩ (.int .i64 t296)).setCell ⟨zbe, 2, none⟩ (.int .i64 t297)).heap[zbe]? = some (.cells #[.string t295, .int .i64 t296, .int .i64 t297] 81 (0, 0))) := ⟨by refine M.fp (cs := #[.string t295, .int .i64 t296, .int .i64 a0_2]) ?_ 2; refine M.fp (cs := #[.string t295, .int .i64 a0_1, .int .i64 a0_2]) ?_ 1; refine M.fp (cs := #[.string a0_0, .int .i64 a0_1, .int .i64 a0_2]) ?_ 0; exact M.bk zbf⟩
   have n1_ : Aside0 ((((w10.setCell ⟨zbe, 0, none⟩ (.string t295)).setCell ⟨zbe, 1, none⟩ (.int .i64 t296)).setCell ⟨zbe, 2, none⟩ (.int .i64 t297)).heap[zbi]? = some (.cells #[.string (⟨#[]⟩ : ByteArray), .int .i64 0, .int .i64 0] 81 (0, 0))) := ⟨by refine M.fr ?_ zbn; refine M.fr ?_ zbn; refine M.fr ?_ zbn; exact M.bk zbj⟩
   have n2_ : Aside0 (Below w.heap.size w (((w10.setCell ⟨zbe, 0, none⟩ (.string t295)).setCell ⟨zbe, 1, none⟩ (.int .i64 t296)).setCell ⟨zbe, 2, none⟩ (.int .i64 t297))) := ⟨M.up HB⟩
   (try clear zbf)
   (try clear zbj)
   (try clear HB)
   generalize (((w10.setCell ⟨zbe, 0, none⟩ (.string t295)).setCell ⟨zbe, 1, none⟩ (.int .i64 t296)).setCell ⟨zbe, 2, none⟩ (.int .i64 t297)) = w12 at n0_ n1_ n2_ ⊢
   have zbf := n0_
   have zbj := n1_
   have HB := n2_
   clear n0_ n1_ n2_
   replace zbf := Aside0.mk (blk_drew zbf.out); replace zbj := Aside0.mk (blk_drew zbj.out); replace HB := Aside0.mk (below_drew1 HB.out)
   have p5 : 0 ≤ (0 : Int) := (by omega)
   have q5 : 0 < t298.size := (by have : (0 : Int) < (t298.size : Int) := M.dt; omega)
   have hx5 : ∀ h : 0 < t298.size, ((t298[0]'h).toNat : Int) = bt t298 0 := bt_at t298 0
   clear p5
   have qi5 : (0 < (t298.size : Int)) = True := eq_true (M.dt)
   replace q5 := eq_true q5
   refine start_ (n := 6) (S := fun w' => w'.cell? ⟨zbe, 0, none⟩ = some (.string t295) ∧ w'.cell? ⟨zbe, 1, none⟩ = some (.int .i64 t296) ∧ w'.cell? ⟨zbe, 2, none⟩ = some (.int .i64 t297)) (ds := []) #[false, false, false, false, false, false] (by kernel_rfl) rfl rfl ⟨(blk_cell zbf.out 0).trans rfl, (blk_cell zbf.out 1).trans rfl, (blk_cell zbf.out 2).trans rfl⟩ (fun hHeld => ?_)
   generalize w12.drew = w13 at zbf zbj HB hHeld ⊢
   refine pure_ (i := 1) (N := some 15) (v := ?_) (a' := ?_) #[false, true, false, false, false, false] rfl rfl (by kernel_rfl) (fun _ _ _ h => h) (Or.inl ⟨by rfl, ?_⟩) ?_ ?_
   rotate_left
   ·intro w'
    go_simp
    with_reducible rfl
   rotate_left
   ·simp only [Act.put, List.setIfInBounds_toArray, List.set_cons_zero, List.set_cons_succ, i64_w, i32_w]
    rfl
   refine take_ (i := 0) (N := some 14) (v := ?_) (a' := ?_) #[true, true, false, false, false, false] rfl rfl (by kernel_rfl) (fun _ _ _ h => h) (Or.inl ⟨by rfl, ?_⟩) hHeld ?_ ?_
   rotate_left
   ·rintro w' ⟨s0, s1, s2⟩
    go_simp
    with_reducible rfl
   rotate_left
   ·simp only [Act.put, List.setIfInBounds_toArray, List.set_cons_zero, List.set_cons_succ, i64_w, i32_w]
    rfl
   refine take_ (i := 2) (N := some 16) (v := ?_) (a' := ?_) #[true, true, true, false, false, false] rfl rfl (by kernel_rfl) (fun _ _ _ h => h) (Or.inl ⟨by rfl, ?_⟩) hHeld ?_ ?_
   rotate_left
   ·rintro w' ⟨s0, s1, s2⟩
    go_simp
    with_reducible rfl
   rotate_left
   ·simp only [Act.put, List.setIfInBounds_toArray, List.set_cons_zero, List.set_cons_succ, i64_w, i32_w]
    rfl
   refine pure_ (i := 3) (N := some 17) (v := ?_) (a' := ?_) #[true, true, true, true, false, false] rfl rfl (by kernel_rfl) (fun _ _ _ h => h) (Or.inl ⟨by rfl, ?_⟩) ?_ ?_
   rotate_left
   ·intro w'
    go_simp
    with_reducible rfl
   rotate_left
   ·simp only [Act.put, List.setIfInBounds_toArray, List.set_cons_zero, List.set_cons_succ, i64_w, i32_w]
    rfl
   refine one_ (i := 4) (N := none) #[true, true, true, true, true, false] rfl rfl (by kernel_rfl) (by decide) (fun K hK => ?_)
   have hs14 : w13.cell? ⟨zbi, 0, none⟩ = some (.string (⟨#[]⟩ : ByteArray)) := (blk_cell zbj.out 0).trans rfl
   have hfs14 := blk_frozen zbj.out 0
   have hns14_0 := zbm.out
   have hms14_0 := zbn.out
   have hs15 : w13.cell? ⟨zbi, 1, none⟩ = some (.int .i64 0) := (blk_cell zbj.out 1).trans rfl
   have hfs15 := blk_frozen zbj.out 1
   have hns15_0 := zbm.out
   have hms15_0 := zbn.out
   have hs16 : w13.cell? ⟨zbi, 2, none⟩ = some (.int .i64 0) := (blk_cell zbj.out 2).trans rfl
   have hfs16 := blk_frozen zbj.out 2
   have hns16_0 := zbm.out
   have hms16_0 := zbn.out
   refine skip_ (w1 := ?_) (by rfl) rfl ?_ ?_
   rotate_left
   ·go_simp
    rfl
   refine hK.out _ _ ⟨((cell_far (p := ⟨zbi, _, none⟩) zbm.out _).trans (((cell_far (p := ⟨zbi, _, none⟩) zbm.out _).trans (((cell_far (p := ⟨zbi, _, none⟩) zbm.out _).trans (hHeld.1)))))), ((cell_far (p := ⟨zbi, _, none⟩) zbm.out _).trans (((cell_far (p := ⟨zbi, _, none⟩) zbm.out _).trans (((cell_far (p := ⟨zbi, _, none⟩) zbm.out _).trans (hHeld.2.1)))))), ((cell_far (p := ⟨zbi, _, none⟩) zbm.out _).trans (((cell_far (p := ⟨zbi, _, none⟩) zbm.out _).trans (((cell_far (p := ⟨zbi, _, none⟩) zbm.out _).trans (hHeld.2.2))))))⟩ (fun hHeld => ?_)
   clear hK K
   refine pure_ (i := 5) (N := some 3) (v := ?_) (a' := ?_) #[true, true, true, true, true, true] rfl rfl (by kernel_rfl) (fun _ _ _ h => h) (Or.inl ⟨by rfl, ?_⟩) ?_ ?_
   rotate_left
   ·intro w'
    go_simp
    with_reducible rfl
   rotate_left
   ·simp only [Act.put, List.setIfInBounds_toArray, List.set_cons_zero, List.set_cons_succ, i64_w, i32_w]
    rfl
   refine done_ (by kernel_rfl) ?_
   try go_wp2
   refine bodyPost_ret (results_ct rfl _ _ zbi 81 #[.string t295, .int .i64 t296, .int .i64 t297] (0, 0) _ rfl (by refine M.fp (cs := #[.string t295, .int .i64 t296, .int .i64 0]) ?_ 2; refine M.fp (cs := #[.string t295, .int .i64 0, .int .i64 0]) ?_ 1; refine M.fp (cs := #[.string (⟨#[]⟩ : ByteArray), .int .i64 0, .int .i64 0]) ?_ 0; exact M.bk zbj) Tryd.underlying81 rfl (by kernel_rfl)) rfl ?_
   exact M.fin (M.up HB)
  ·exact M.nf c4 H
 ·rw [if_neg c3] at H
  have c3b0 : (t297 == 0) = false := beq_eq_false_iff_ne.mpr c3
  have c3b1 : (t297 != 0) = true := bne_iff_ne.mpr c3
  simp only [Option.some.injEq, Prod.mk.injEq] at H
  obtain ⟨rfl, rfl, rfl, rfl⟩ := H
  go_enter Tryd.func32, Tryd.ntmps32
  go_wp2_with (first | ((with_reducible refine gate_dst (N := 1) rfl ?_); refine M.bx 1 81 (#[.string a0_0, .int .i64 a0_1, .int .i64 a0_2]) ?_; intro zbe hg w17 hbox hb; have zbf := Aside0.mk (hbox); have zbg := M.upG HB hg; have zbh := M.upG HB hg; replace HB := M.upS HB hb; clear hb hbox hg) | ((with_reducible refine gate_dst (N := 2) rfl ?_); refine M.bx 2 81 (#[.string (⟨#[]⟩ : ByteArray), .int .i64 0, .int .i64 0]) ?_; intro zbi hg w18 hbox hb; have zbj := Aside0.mk (hbox); have zbk := M.upG HB hg; have zbl := M.upG HB hg; replace HB := M.upS HB hb; have zbm := M.bkL zbf hg; have zbn := M.bkG zbf hg; replace zbf := M.bkB zbf hb; clear hb hbox hg; have zbw := zbm.out; have zbx := zbn.out; obtain ⟨zby, zbz, zbA⟩ := M.bc3 (w := w18) (a := .string a0_0) (b := .int .i64 a0_1) (c := .int .i64 a0_2) zbf.out; obtain ⟨zbB, zbC, zbD⟩ := M.bf3 zbf) | ((with_reducible refine gate_callee (f := 50) rfl ?_); refine M.goes (some 7) Tryd.func50 #[.agg #[.string a0_0, .int .i64 a0_1, .int .i64 a0_2], .int .i64 1] rfl ?_; (with_reducible refine (pleachref04_fix.calls a0_0 a0_1 a0_2 1 t295 t296 t297 t298 _ A2.out).mono ?_); rintro e w21 ⟨rfl, hb⟩; refine ⟨_, rfl, ?_⟩; replace zbf := M.bkB zbf hb; replace zbj := M.bkB zbj hb; replace HB := M.upS HB hb; (try clear hb); obtain ⟨zaO, zaP, zaQ⟩ := M.bc3 (w := w21) (a := .string a0_0) (b := .int .i64 a0_1) (c := .int .i64 a0_2) zbf.out; obtain ⟨zaR, zaS, zaT⟩ := M.bf3 zbf; obtain ⟨zaU, zaV, zaW⟩ := M.bc3 (w := w21) (a := .string (⟨#[]⟩ : ByteArray)) (b := .int .i64 0) (c := .int .i64 0) zbj.out; obtain ⟨zaX, zaY, zaZ⟩ := M.bf3 zbj))
  refine bodyPost_ret (results_ct rfl _ _ zbi 81 #[.string t295, .int .i64 t296, .int .i64 t297] (0, 0) _ rfl (by refine M.fp (cs := #[.string t295, .int .i64 t296, .int .i64 0]) ?_ 2; refine M.fp (cs := #[.string t295, .int .i64 0, .int .i64 0]) ?_ 1; refine M.fp (cs := #[.string (⟨#[]⟩ : ByteArray), .int .i64 0, .int .i64 0]) ?_ 0; refine M.fr ?_ zbn; refine M.fr ?_ zbn; refine M.fr ?_ zbn; exact M.bk zbj) Tryd.underlying81 rfl (by kernel_rfl)) rfl ?_
  exact M.fin (M.up HB)
def pleachref04_Byte.f (a0_0 : ByteArray) (a0_1 : Int) (a0_2 : Int) : Option (ByteArray × Int × Int × Int) :=
  if M.sok a0_0 a0_1 then some (a0_0, (M.xbyte a0_0 a0_1 a0_2).2.1, (M.xbyte a0_0 a0_1 a0_2).2.2, (M.xbyte a0_0 a0_1 a0_2).1) else none
theorem pleachref04_Byte.ev (s : ByteArray) (p er : Int) (r : ByteArray × Int × Int × Int) (h : pleachref04_Byte.f s p er = some r) : pleachref04_Byte_p.f s p er = some r := by
 unfold pleachref04_Byte.f at h
 split at h
 case isFalse => cases h
 case isTrue hs =>
  unfold pleachref04_Byte_p.f pleachref04_fix.f
  rw [if_pos ⟨hs, by decide, by decide⟩, Option.bind_some, ← h]
  have hb := M.byte_of s hs
  unfold M.xfix M.xbyte
  by_cases he : er = 0
  ·simp only [if_pos he]
   by_cases hp : p < s.size
   ·obtain ⟨e1, e2, e3⟩ := hb hp
    unfold M.sfix
    have c2 : ¬ ((1 : Int) < 0 ∨ (s.size : Int) - p < 1) := by omega
    rw [if_neg c2, if_pos hp]
    simp only [if_true]
    rw [if_pos e2, e3]
   ·unfold M.sfix
    have c2 : (1 : Int) < 0 ∨ (s.size : Int) - p < 1 := by omega
    rw [if_pos c2, if_neg hp]
    rfl
  ·simp only [if_neg he]
theorem pleachref04_Byte.calls (a0_0 : ByteArray) (a0_1 : Int) (a0_2 : Int) (r1 : ByteArray) (r2 : Int) (r3 : Int) (r4 : Int) (w : World) (h : pleachref04_Byte.f a0_0 a0_1 a0_2 = some (r1, r2, r3, r4)) :
    Calls Tryd.prog 32 #[.agg #[.string a0_0, .int .i64 a0_1, .int .i64 a0_2]] w fun e w' => e = .returned (.tuple #[.agg #[.string r1, .int .i64 r2, .int .i64 r3], .int .i64 r4]) ∧ Below w.heap.size w w' := by
 exact pleachref04_Byte_p.calls (w := w) (h := pleachref04_Byte.ev _ _ _ _ h)
def pleachref01_Digits_p.l0 : Nat → Int → List Int → Option (List Int)
  | 0, _, _ => none
  | k + 1, x0, x3 => if x0 > 0 then (if x3.length < 17592186044416 then (pleachref01_Digits_p.l0 k (IntKind.u64.wrap (Int.tdiv x0 128)) (x3 ++ [wrap64 (Int.tmod x0 128)])) else (none)) else (some x3)
def pleachref01_Digits_p.f (k : Nat) (a0 : Int) : Option (List Int) := pleachref01_Digits_p.l0 k (IntKind.u64.wrap (Int.tdiv a0 128)) (([wrap64 (Int.tmod a0 128)] : List Int))
theorem pleachref01_Digits_p.mono_l : ∀ k, (∀ y0 y1, LeO (pleachref01_Digits_p.l0 k y0 y1) (pleachref01_Digits_p.l0 (k + 1) y0 y1))
  | 0 => fun _ _ r h => by simp [pleachref01_Digits_p.l0] at h
  | k + 1 => by
    have ih0 := pleachref01_Digits_p.mono_l k
    · intro y0 y1
      unfold pleachref01_Digits_p.l0
      repeat' first
      | (with_reducible exact ih0 _ _)
      | (with_reducible exact LeO.refl _)
      | (with_reducible exact LeO.none _)
      | (with_reducible refine LeO.ite ?_ ?_)
      | (with_reducible refine LeO.bind ?_ (fun _ => ?_))
      | exact ih0 _ _
      | exact LeO.none _
      | refine LeO.ite ?_ ?_
      | refine LeO.bind ?_ (fun _ => ?_)
theorem pleachref01_Digits_p.mono : ∀ a0 k, LeO (pleachref01_Digits_p.f k a0) (pleachref01_Digits_p.f (k + 1) a0) := by
  intro a0 k
  have ih0 := pleachref01_Digits_p.mono_l k
  unfold pleachref01_Digits_p.f
  repeat' first
      | (with_reducible exact ih0 _ _)
      | (with_reducible exact LeO.refl _)
      | (with_reducible exact LeO.none _)
      | (with_reducible refine LeO.ite ?_ ?_)
      | (with_reducible refine LeO.bind ?_ (fun _ => ?_))
      | exact ih0 _ _
      | exact LeO.none _
      | refine LeO.ite ?_ ?_
      | refine LeO.bind ?_ (fun _ => ?_)
set_option maxHeartbeats 8000000 in
set_option maxRecDepth 100000 in
theorem pleachref01_Digits_p.calls (k : Nat) (a0 : Int) (r : List Int) (w : World) (h : pleachref01_Digits_p.f k a0 = some r) :
    Calls Tryd.prog 76 #[.int .u64 a0] w fun e w' => ∃ v0_ : Value, e = .returned (v0_) ∧ Kd.R (Kd.int .i64) 3 w' w.heap.size (fun _ => True) v0_ r ∧ Below w.heap.size w w' := by
 have HB := Aside0.mk (Below.refl w.heap.size w)
 have H : (pleachref01_Digits_p.l0 k (IntKind.u64.wrap (Int.tdiv a0 128)) (([wrap64 (Int.tmod a0 128)] : List Int))) = some r := h
 clear h
 obtain ⟨y299, hy299⟩ : ∃ y_ : List Int, y_ = (([wrap64 (Int.tmod a0 128)] : List Int)) := ⟨_, rfl⟩
 replace H : (pleachref01_Digits_p.l0 k (IntKind.u64.wrap (Int.tdiv a0 128)) y299) = some r := by first | (rw [hy299]; with_reducible exact H) | (have H2_ := (Option.bind_some _ _).symm.trans H; rw [hy299]; with_reducible exact H2_) | (have H2_ := (Option.bind_some _ _).symm.trans H; with_reducible exact H2_) | with_reducible exact H | (rw [hy299]; exact H) | exact H
 have Ny299 := Aside0.mk hy299
 clear hy299
 have H' := Aside0.mk H
 clear H
 go_enter Tryd.func76, Tryd.ntmps76
 go_wp2_with (first | ((with_reducible refine gate_dst (N := 7) rfl ?_); refine Kd.R_lit (Kd.int .i64) _ 3 ?hg (N := 7) ?hd (xs := ([wrap64 (Int.tmod a0 128)] : List Int)) (inner := [.int .i64 (wrap64 (Int.tmod a0 128))]) (ok := fun _ => True) (okp := fun _ => True) ?hr ?hp (fun _ hk => hk) trivial (Below.refl _ _) (Nat.le_refl _) (by simp) ?_; (case hd => rfl); (case hg => rfl); (case hr => first | (go_simp; done) | (go_simp; rfl)); (case hp => exact (Reps.one (show Kd.M (Kd.int .i64) _ _ _ (wrap64 (Int.tmod a0 128)) [.int .i64 (wrap64 (Int.tmod a0 128))] from rfl) (Reps.none _ _))); intro v300 w2 ho3 hb hg_ hnew_; clear hg_ hnew_; (first | rw [← Ny299.out] at ho3 | (simp only [Int.reduceToNat] at ho3; rw [← Ny299.out] at ho3)); have HO301 := Aside0.mk (Kd.R_lower ho3 (below_size (M.up HB))); replace HB := M.upS HB hb; clear hb ho3))
 go_loopg [0, 3] k (fun kq v0 v3 w' => ∃ (x0_1 : Int) (x3_1 : List Int), v0 = .int .u64 x0_1 ∧ Aside0 (pleachref01_Digits_p.l0 kq x0_1 x3_1 = some r) ∧ Aside0 (kq ≤ k) ∧ Aside0 (Kd.R (Kd.int .i64) 3 w' w.heap.size (fun _ => True) v3 x3_1) ∧ Aside0 (Below w.heap.size w w'))
 case atStart => exact ⟨(IntKind.u64.wrap (Int.tdiv a0 128)), (y299), M.eqv, H', ⟨Nat.le_refl _⟩, ⟨by (with_reducible repeat (first | apply Kd.R_alloc | apply Kd.R_drewN | apply Kd.R_drew)); exact HO301.out⟩, ⟨M.up HB⟩⟩
 case round =>
  clear H'
  try clear p2
  obtain ⟨x0_1, x3_1, rfl, HA, HK1, zbE, HB⟩ := hrel
  cases gk with
  | zero => exact absurd HA.out (by simp [pleachref01_Digits_p.l0])
  | succ k1 =>
   have H := HA.out
   clear HA
   simp only [pleachref01_Digits_p.l0] at H
   by_cases c4 : x0_1 > 0
   ·rw [if_pos c4] at H
    have c4b0 := decide_eq_true c4
    clear c4
    by_cases c5 : x3_1.length < 17592186044416
    ·rw [if_pos c5] at H
     have LMc5 := Aside0.mk c5
     clear c5
     obtain ⟨y302, hy302⟩ : ∃ y_ : List Int, y_ = (x3_1 ++ [wrap64 (Int.tmod x0_1 128)]) := ⟨_, rfl⟩
     replace H : (pleachref01_Digits_p.l0 k1 (IntKind.u64.wrap (Int.tdiv x0_1 128)) y302) = some r := by first | (rw [hy302]; with_reducible exact H) | (have H2_ := (Option.bind_some _ _).symm.trans H; rw [hy302]; with_reducible exact H2_) | (have H2_ := (Option.bind_some _ _).symm.trans H; with_reducible exact H2_) | with_reducible exact H | (rw [hy302]; exact H) | exact H
     have Ny302 := Aside0.mk hy302
     clear hy302
     have H' := Aside0.mk H
     clear H
     go_wp2_with (first | ((with_reducible refine gate_builtin (b := .append) (xs := #[.tmp 12, .tmp 16]) rfl ?_); at_builtin; refine Kd.R_append (Kd.int .i64) (w0 := w) w.heap.size rfl (.tmp 12) (.tmp 16) 37 3 (.int .i64 0) 8 rfl Tryd.underlying37 info3 rfl (by decide) (by omega) u3 x3_1 (wrap64 (Int.tmod x0_1 128)) [.int .i64 (wrap64 (Int.tmod x0_1 128))] (fun _ => True) (fun _ => False) rfl rfl ?aP (fun _ hk => hk.elim) ?aF ?aO ?aB ?aS ?aL ?_; (case aP => exact rfl); (case aB => exact (M.up HB)); (case aF => exact (fun _ _ => trivial)); (case aO => exact (M.ro zbE)); (case aS => exact (below_size (M.up HB))); (case aL => have := LMc5.out; omega); intro v303 w6 ho hb hg hat; rw [← Ny302.out] at ho; replace HB := Aside0.mk (hb); have HO304 := Aside0.mk (ho); clear zbE; clear ho hb hg hat))
     go_roundg k1
     case measure => have := HK1.out; omega
     case rel => exact ⟨(IntKind.u64.wrap (Int.tdiv x0_1 128)), (y302), M.eqv, H', ⟨by have := HK1.out; omega⟩, ⟨by (with_reducible repeat (first | apply Kd.R_alloc | apply Kd.R_drewN | apply Kd.R_drew)); exact HO304.out⟩, ⟨M.up HB⟩⟩
    ·exact M.nf c5 H
   ·rw [if_neg c4] at H
    have c4b0 := decide_eq_false c4
    clear c4
    obtain rfl := Option.some.inj H
    go_wp2
    go_ret
    exact ⟨_, M.eqe, by (with_reducible repeat (first | apply Kd.R_alloc | apply Kd.R_drewN | apply Kd.R_drew)); exact zbE.out, M.up HB⟩
def pleachref01_Digits.f (a0 : Int) : Option (List Int) := if 0 ≤ a0 ∧ a0 < 18446744073709551616 then some (M.vdig a0.toNat) else none
theorem pleachref01_Digits.loop (d : Nat) : ∀ (m : Nat) (pre : List Int), m < 128 ^ d → m < 18446744073709551616 → pre.length + d ≤ 100 →
    ∃ k, pleachref01_Digits_p.l0 k (m : Int) pre = some (if m = 0 then pre else pre ++ M.vdig m) := by
  induction d with
  | zero => ?_
  | succ d ih => ?_
  all_goals
    intro m pre hm h64 hl
    by_cases h0 : m = 0
    case pos => exact ⟨1, by simp only [pleachref01_Digits_p.l0]; rw [if_neg (by omega), if_pos h0]⟩
    case neg =>
      first
      | (exfalso; simp at hm; omega)
      | (obtain ⟨k, hk⟩ := ih (m / 128) (pre ++ [((m % 128 : Nat) : Int)]) (by rw [Nat.pow_succ] at hm; omega) (by omega) (by simp; omega)
         refine ⟨k + 1, ?_⟩
         have e1 : IntKind.u64.wrap (Int.tdiv (m : Int) 128) = ((m / 128 : Nat) : Int) := by
           rw [Int.tdiv_eq_ediv_of_nonneg (by omega), M.u64_id (by omega) (by omega)]; omega
         have e2 : wrap64 (Int.tmod (m : Int) 128) = ((m % 128 : Nat) : Int) := by
           rw [Int.tmod_eq_emod_of_nonneg (by omega), M.wrap64_id (by omega) (by omega)]; omega
         simp only [pleachref01_Digits_p.l0]
         rw [if_pos (by omega), if_pos (by omega), e1, e2, hk, if_neg h0]
         by_cases h1 : m < 128
         · rw [if_pos (by omega), M.vdig_low h1, Nat.mod_eq_of_lt h1]
         · rw [if_neg (by omega), M.vdig_high h1]; simp)
theorem pleachref01_Digits.ev (a0 : Int) (r : List Int) (h : pleachref01_Digits.f a0 = some r) : ∃ k, pleachref01_Digits_p.f k a0 = some r := by
 unfold pleachref01_Digits.f at h
 split at h
 ·rename_i hh
  obtain rfl := Option.some.inj h
  obtain ⟨m, rfl⟩ := Int.eq_ofNat_of_zero_le hh.1
  have e1 : IntKind.u64.wrap (Int.tdiv (m : Int) 128) = ((m / 128 : Nat) : Int) := by
   rw [Int.tdiv_eq_ediv_of_nonneg (by omega), M.u64_id (by omega) (by omega)]; omega
  have e2 : wrap64 (Int.tmod (m : Int) 128) = ((m % 128 : Nat) : Int) := by
   rw [Int.tmod_eq_emod_of_nonneg (by omega), M.wrap64_id (by omega) (by omega)]; omega
  obtain ⟨k, hk⟩ := pleachref01_Digits.loop 9 (m / 128) [((m % 128 : Nat) : Int)] (by omega) (by omega) (by simp)
  refine ⟨k, ?_⟩
  unfold pleachref01_Digits_p.f
  rw [e1, e2, hk, Int.toNat_natCast]
  by_cases h1 : m < 128
  ·rw [if_pos (by omega), M.vdig_low h1, Nat.mod_eq_of_lt h1]
  ·rw [if_neg (by omega), M.vdig_high h1]; simp
 ·cases h
theorem pleachref01_Digits.calls (a0 : Int) (r : List Int) (w : World) (h : pleachref01_Digits.f a0 = some r) :
    Calls Tryd.prog 76 #[.int .u64 a0] w fun e w' => ∃ v0_ : Value, e = .returned (v0_) ∧ Kd.R (Kd.int .i64) 3 w' w.heap.size (fun _ => True) v0_ r ∧ Below w.heap.size w w' := by
 obtain ⟨k, hk⟩ := pleachref01_Digits.ev _ _ h
 exact pleachref01_Digits_p.calls (k := k) (w := w) (h := hk)
end Go.Proofs.YtkjbhgolillidaaDoor.EMarkNames
