-- Laid by this session's own program (wip/tools/fold.py): this session's texts, cut to what the claim names and put together; Lean checks it.
import Derived.Test.YtikdbklmhjlfoaaDoorVCommitKnots1
import Derived.Test.YtikdbklmhjlfoaaDoorVCommitKnots3
import Derived.Test.YtikdbklmhjlfoaaDoorVCommitKnots5
import Derived.Test.YtikdbklmhjlfoaaDoorVCommitKnots9
import Derived.Test.YtikdbklmhjlfoaaDoorXCommitKnots1
namespace Go.Proofs.YtikdbklmhjlfoaaDoor.ECommitKnots
open Go.RowKit Go.Proofs.YtikdbklmhjlfoaaDoorW.PrintWords Go.Proofs.YtikdbklmhjlfoaaDoorW.PrintLast Go.Proofs.YtikdbklmhjlfoaaDoorW.PrintMore
attribute [local go_sem] M.run_leq M.run_gtr M.run_geq max2_int min2_int max_two min_two max_three min_three max_four min_four
set_option linter.unusedVariables false
set_option linter.unusedSimpArgs false
section
open Go.Maps
def sortsI_int.lay_ren : Go.Shelf.Ren := ⟨fun | 125 => 79 | 128 => 91 | 129 => 92 | 189 => 67 | 215 => 98 | 216 => 88 | 257 => 78 | 294 => 82 | 295 => 83 | 296 => 84 | 297 => 85 | 298 => 86 | 299 => 87 | 300 => 89 | 301 => 90 | 328 => 93 | 329 => 94 | 330 => 95 | 331 => 96 | 332 => 97 | 343 => 99 | n => n, fun | 0 => 0 | 3 => 3 | 4 => 4 | 5 => 5 | 9 => 9 | 28 => 60 | 46 => 114 | 51 => 116 | 53 => 101 | 131 => 87 | 182 => 133 | 183 => 134 | 218 => 142 | 222 => 146 | 228 => 148 | 229 => 149 | n => n, fun | n => n⟩
theorem sortsI_int.lay : Go.Proofs.Lays.n189 Tryd.prog sortsI_int.lay_ren := {
  mixed := by kernel_rfl
  f125 := Tryd.func79.trans (congrArg some (by kernel_rfl))
  f128 := Tryd.func91.trans (congrArg some (by kernel_rfl))
  f129 := Tryd.func92.trans (congrArg some (by kernel_rfl))
  f189 := Tryd.func67.trans (congrArg some (by kernel_rfl))
  f215 := Tryd.func98.trans (congrArg some (by kernel_rfl))
  f216 := Tryd.func88.trans (congrArg some (by kernel_rfl))
  f257 := Tryd.func78.trans (congrArg some (by kernel_rfl))
  f294 := Tryd.func82.trans (congrArg some (by kernel_rfl))
  f295 := Tryd.func83.trans (congrArg some (by kernel_rfl))
  f296 := Tryd.func84.trans (congrArg some (by kernel_rfl))
  f297 := Tryd.func85.trans (congrArg some (by kernel_rfl))
  f298 := Tryd.func86.trans (congrArg some (by kernel_rfl))
  f299 := Tryd.func87.trans (congrArg some (by kernel_rfl))
  f300 := Tryd.func89.trans (congrArg some (by kernel_rfl))
  f301 := Tryd.func90.trans (congrArg some (by kernel_rfl))
  f328 := Tryd.func93.trans (congrArg some (by kernel_rfl))
  f329 := Tryd.func94.trans (congrArg some (by kernel_rfl))
  f330 := Tryd.func95.trans (congrArg some (by kernel_rfl))
  f331 := Tryd.func96.trans (congrArg some (by kernel_rfl))
  f332 := Tryd.func97.trans (congrArg some (by kernel_rfl))
  f343 := Tryd.func99.trans (congrArg some (by kernel_rfl))
  t0 := Tryd.underlying0
  a0 := Tryd.isAgg0
  z0 := Tryd.sizeOf0
  v0 := Tryd.zeroValue0
  t3 := Tryd.underlying3
  a3 := Tryd.isAgg3
  z3 := Tryd.sizeOf3
  v3 := Tryd.zeroValue3
  t4 := Tryd.underlying4
  a4 := Tryd.isAgg4
  z4 := Tryd.sizeOf4
  v4 := Tryd.zeroValue4
  t5 := Tryd.underlying5
  a5 := Tryd.isAgg5
  z5 := Tryd.sizeOf5
  v5 := Tryd.zeroValue5
  t9 := Tryd.underlying9
  a9 := Tryd.isAgg9
  z9 := Tryd.sizeOf9
  v9 := Tryd.zeroValue9
  t28 := Tryd.underlying60
  a28 := Tryd.isAgg60
  z28 := Tryd.sizeOf60
  v28 := Tryd.zeroValue60
  t46 := Tryd.underlying114
  a46 := Tryd.isAgg114
  z46 := Tryd.sizeOf114
  v46 := Tryd.zeroValue114
  t51 := Tryd.underlying116
  a51 := Tryd.isAgg116
  z51 := Tryd.sizeOf116
  v51 := Tryd.zeroValue116
  t53 := Tryd.underlying101
  a53 := Tryd.isAgg101
  z53 := Tryd.sizeOf101
  v53 := Tryd.zeroValue101
  t131 := Tryd.underlying87
  a131 := Tryd.isAgg87
  z131 := Tryd.sizeOf87
  v131 := Tryd.zeroValue87
  t182 := Tryd.underlying133
  a182 := Tryd.isAgg133
  z182 := Tryd.sizeOf133
  v182 := Tryd.zeroValue133
  t183 := Tryd.underlying134
  a183 := Tryd.isAgg134
  z183 := Tryd.sizeOf134
  v183 := Tryd.zeroValue134
  t218 := Tryd.underlying142
  a218 := Tryd.isAgg142
  z218 := Tryd.sizeOf142
  v218 := Tryd.zeroValue142
  t222 := Tryd.underlying146
  a222 := Tryd.isAgg146
  z222 := Tryd.sizeOf146
  v222 := Tryd.zeroValue146
  t228 := Tryd.underlying148
  a228 := Tryd.isAgg148
  z228 := Tryd.sizeOf148
  v228 := Tryd.zeroValue148
  t229 := Tryd.underlying149
  a229 := Tryd.isAgg149
  z229 := Tryd.sizeOf149
  v229 := Tryd.zeroValue149 }
def slices_Sorted_int.ren : Go.Shelf.Ren := ⟨fun | 6 => 51 | 8 => 66 | 9 => 67 | 11 => 77 | n => n, fun | 0 => 0 | 24 => 60 | 26 => 3 | 28 => 97 | 33 => 112 | n => n, fun | n => n⟩
theorem slices_Sorted_int.lay : Go.Proofs.SlLaysZI.n6 Tryd.prog slices_Sorted_int.ren := {
  mixed := by kernel_rfl
  f6 := ⟨"slices.Sorted[int]", by decide +kernel, Tryd.func51.trans (congrArg some (by kernel_rfl))⟩
  f8 := ⟨"slices.Collect[int]", by decide +kernel, Tryd.func66.trans (congrArg some (by kernel_rfl))⟩
  f11 := ⟨"slices.AppendSeq[[]int,int]", by decide +kernel, Tryd.func77.trans (congrArg some (by kernel_rfl))⟩
  t0 := Tryd.underlying0
  a0 := Tryd.isAgg0
  z0 := Tryd.sizeOf0
  v0 := Tryd.zeroValue0
  t24 := Tryd.underlying60
  a24 := Tryd.isAgg60
  z24 := Tryd.sizeOf60
  v24 := Tryd.zeroValue60
  t26 := Tryd.underlying3
  a26 := Tryd.isAgg3
  z26 := Tryd.sizeOf3
  v26 := Tryd.zeroValue3
  t28 := Tryd.underlying97
  a28 := Tryd.isAgg97
  z28 := Tryd.sizeOf97
  v28 := Tryd.zeroValue97
  i26 := by kernel_rfl }
theorem slices_Sorted_int.sorts (m : Nat) : AnyZI.SortsIn Tryd.prog slices_Sorted_int.ren Fence.wide m :=
  ⟨fun blk off cap ss W hH hblk hsz => callsIn_wide.2 (Any.slices_Sort_int sortsI_int.lay blk off cap ss W hH hblk hsz),
   fun p cap W => callsIn_wide.2 (Any.slices_Sort_int_none sortsI_int.lay p cap W)⟩
def maps_KeysI.ren : Go.Shelf.Ren := ⟨fun | 10 => 68 | n => n, fun | 0 => 0 | 4 => 4 | 23 => 94 | 26 => 3 | 33 => 112 | 3 => 3 | n => n, fun | n => n⟩
theorem maps_KeysI.lay : Go.Proofs.SlLaysZI.n10 Tryd.prog maps_KeysI.ren := {
  mixed := by kernel_rfl
  f10 := ⟨"maps.Keys[map[int]int,int,int]$1", by decide +kernel, Tryd.func68.trans (congrArg some (by kernel_rfl))⟩
  t0 := Tryd.underlying0
  a0 := Tryd.isAgg0
  z0 := Tryd.sizeOf0
  v0 := Tryd.zeroValue0
  t4 := Tryd.underlying4
  a4 := Tryd.isAgg4
  z4 := Tryd.sizeOf4
  v4 := Tryd.zeroValue4
  t23 := Tryd.underlying94
  a23 := Tryd.isAgg94
  z23 := Tryd.sizeOf94
  v23 := Tryd.zeroValue94
  t26 := Tryd.underlying3
  a26 := Tryd.isAgg3
  z26 := Tryd.sizeOf3
  v26 := Tryd.zeroValue3
  t33 := Tryd.underlying112
  a33 := Tryd.isAgg112
  z33 := Tryd.sizeOf112
  v33 := Tryd.zeroValue112 }
set_option maxHeartbeats 1000000 in
theorem slices_Sorted_int.keys (b nn : Nat) (D0 : DataW Unit) (R : Value → Option (DataW Unit × List MemPlace)) (w : World) (hown : w.ownsMap Tryd.prog 3 R b nn D0) (hmax : Maps.size D0 ≤ maxLen) (hbytes : Maps.size D0 * 8 ≤ 140737488355328) :
    Calls Tryd.prog 51 #[.func (.func 68) #[] #[.pointer (some ⟨w.heap.size, 0, none⟩)]] (w.alloc (.cells #[.map (some b)] 94)) fun e w' => ∃ (v : Value) (ss : List Int), e = .returned v ∧ ss.Perm (intKeys D0) ∧ w'.ownsRow w.heap.size 3 1 v ss.length ((ss.mergeSort fun x y => decide (x ≤ y)).map encZ) ∧ Below w.heap.size w w' := by
 refine (callsIn_wide (n := 5)).1 ?_
 have hbl := hown.lt
 have hseq : SeqGives Fence.wide 2 Tryd.prog 68 #[.pointer (some ⟨w.heap.size, 0, none⟩)] encZ (fun ss => ss.Perm (intKeys D0)) (Maps.size D0) (w.alloc (.cells #[.map (some b)] 94)) :=
  AnyZI.keys_gives (ρ := maps_KeysI.ren) maps_KeysI.lay Fence.wide _ trivial rfl (by omega) w.heap.size b nn D0 _ (by simp) (by simp) (by
   obtain ⟨es, clock, hb, Ft, hs, hD⟩ := hown
   exact ⟨es, clock, (Below.heap_alloc _ _ b hbl).trans hb, Ft, hs, hD⟩)
 refine (AnyZI.sorted_in (ρ := slices_Sorted_int.ren) slices_Sorted_int.lay Fence.wide 5 trivial trivial trivial trivial rfl (by omega) (slices_Sorted_int.sorts _) (enters_of Tryd.func67 (by kernel_rfl) rfl) 68 #[.pointer (some ⟨w.heap.size, 0, none⟩)] trivial (enters_of Tryd.func68 (by kernel_rfl) rfl) _ _ hmax hbytes _ hseq).mono ?_
 rintro e w' ⟨v, ss, rfl, hS, hrow, _, hb⟩
 exact ⟨v, ss, rfl, hS, ownsRow_base_a hrow (by simp), ((Below.refl _ w).alloc (Nat.le_refl _) _).trans (hb.mono (by simp))⟩
theorem maps_KeysI.box (b : Nat) (w : World) : Calls Tryd.prog 52 #[.map (some b)] w fun e w' => e = .returned (.func (.func 68) #[] #[.pointer (some ⟨w.heap.size, 0, none⟩)]) ∧ w' = w.alloc (.cells #[.map (some b)] 94) := by
 go_enter Tryd.func52, Tryd.ntmps52
 go_wp2
 go_ret
 exact ⟨rfl, rfl⟩
end
section
open Go.Maps
def commit_Knots.ns (al : List S24) : List Int := al.map (fun c => c.f0)
def commit_Knots.kn (s : M.SS) (al : List S24) (n : Int) : S62 := ⟨n, (al.getD (M.fst_ (commit_Knots.ns al) n) z24).f1.map (commit_Back.num s)⟩
def commit_Knots.nm (nl : List ByteArray) (al : List S24) (n : Int) : ByteArray := nl.getD (M.fst_ (commit_Knots.ns al) n) ByteArray.empty
def commit_Knots.res (s : M.SS) (names : List ByteArray) : List S62 × List ByteArray × Int :=
  let r := commit_Back.res s names
  if r.2.2 = 0 then (if (commit_Knots.ns r.2.1).Nodup then ((M.srt (commit_Knots.ns r.2.1)).map (commit_Knots.kn s r.2.1), (M.srt (commit_Knots.ns r.2.1)).map (commit_Knots.nm r.1 r.2.1), 0) else ([], [], 16)) else ([], [], r.2.2)
structure commit_Knots.Good (s : M.SS) (nl : List ByteArray) (al : List S24) : Prop where
  len : nl.length = al.length
  few : al.length ≤ s.ts.length
  once : nl.Nodup
  says : ∀ i, (h : i < al.length) → commit_Back.num s (nl.getD i ByteArray.empty) = (al[i]).f0
  pos : ∀ c ∈ al, 1 ≤ c.f0 ∧ c.f0 ≤ 4294967295 ∧ c.f1.length ≤ 2 ∧ ∀ p ∈ c.f1, p.size ≤ 1000000000000
  all : ∀ c ∈ al, ∀ p ∈ c.f1, p ∈ nl
  size : ∀ n ∈ nl, n.size ≤ 1000000000000
theorem commit_Knots.ld_pos (s : M.SS) (n : ByteArray) (c : S24) (h : commit_visit.ld s n = some c) : 1 ≤ c.f0 ∧ c.f0 ≤ 4294967295 ∧ c.f1.length ≤ 2 ∧ ∀ p ∈ c.f1, p.size ≤ 1000000000000 := by
 have h0 := (commit_Back.ld_in s n c h).2
 unfold commit_visit.ld at h
 split at h
 ·rename_i hc
  obtain rfl := Option.some.inj h
  exact ⟨hc.2.2.2.1.1, hc.2.2.2.1.2, hc.2.2.2.2.1, h0⟩
 ·cases h
theorem commit_Knots.walkInv (s : M.SS) : ∀ (f i : Nat) (st : M.BS S24), M.BS.Inv (commit_visit.ld s) (s.ts.map M.shaSum) st → M.BS.Inv (commit_visit.ld s) (s.ts.map M.shaSum) (M.BS.walk (commit_visit.ld s) (fun c => c.f1) f i st)
  | 0, _, _, h => h
  | f + 1, i, st, h => by
    rw [M.BS.walk]
    split
    · exact commit_Knots.walkInv s f (i + 1) _ (M.BS.Inv.fold (commit_visit.ld s) (fun n c h => (commit_Back.ld_in s n c h).1) _ h)
    · exact h
theorem commit_Knots.good (s : M.SS) (names : List ByteArray) {nl : List ByteArray} {al : List S24} (h : commit_Back.res s names = (nl, al, 0)) : commit_Knots.Good s nl al := by
 have hi : M.BS.Inv (commit_visit.ld s) (s.ts.map M.shaSum) (commit_Back.st s names) := commit_Knots.walkInv s _ _ _ (commit_Back.inv s names)
 have hcl := M.BS.closed (commit_visit.ld s) (fun c => c.f1) (u := s.ts.map M.shaSum) (fun n c h => (commit_Back.ld_in s n c h).1) (s.ts.length + 1) 0 (names.foldl (M.BS.step (commit_visit.ld s)) ⟨[], [], false⟩) (commit_Back.inv s names) (by rw [List.length_map]; omega) (fun j hj h0 => absurd h0 (Nat.not_lt_zero j))
 have hcl : (commit_Back.st s names).bad = false → ∀ c ∈ (commit_Back.st s names).all, ∀ p ∈ c.f1, p ∈ (commit_Back.st s names).names := hcl
 have hf := commit_Back.few s hi
 generalize hst : commit_Back.st s names = st at hi hcl hf
 unfold commit_Back.res at h
 simp only [hst] at h
 split at h
 ·injection h with _ h; injection h with _ h; cases h
 ·rename_i hb
  split at h
  ·injection h with _ h; injection h with _ h; cases h
  ·injection h with h1 h; injection h with h2 _
   subst h1
   subst h2
   have hb0 : st.bad = false := by cases hx : st.bad with | false => rfl | true => exact absurd hx hb
   have hld : ∀ i, (hi2 : i < st.all.length) → ∃ (h3 : i < st.names.length), commit_visit.ld s (st.names[i]) = some (st.all[i]) := fun i hi2 => by
    have h3 : i < st.names.length := by rw [hi.len]; exact hi2
    exact ⟨h3, by rw [hi.says i h3, List.getElem?_eq_getElem hi2]⟩
   refine ⟨hi.len, hf, hi.once, fun i hi2 => ?_, fun c hc => ?_, hcl hb0, fun n hn => ?_⟩
   ·obtain ⟨h3, h4⟩ := hld i hi2
    have e : st.names.getD i ByteArray.empty = st.names[i] := by simp [List.getD, h3]
    unfold commit_Back.num
    rw [e, h4]
   ·obtain ⟨i, hi2, rfl⟩ := List.getElem_of_mem hc
    obtain ⟨h3, h4⟩ := hld i hi2
    exact commit_Knots.ld_pos s _ _ h4
   ·have hm := hi.sub n hn
    obtain ⟨t, _, rfl⟩ := List.mem_map.1 hm
    have := M.shaSum_size t
    omega
def commit_Knots.Num (s : M.SS) (l : List ByteArray) (D : DataW Unit) : Prop := ∀ m : ByteArray, m ∈ l → D.atKey (.string m.data.toList) (.lit (.int .i64 0)) = .lit (.int .i64 (commit_Back.num s m))
theorem commit_Knots.Num.put {s : M.SS} {l : List ByteArray} {D : DataW Unit} (h : commit_Knots.Num s l D) (hD : Maps.IsMap D) (n : ByteArray) : commit_Knots.Num s (l ++ [n]) (D.put (.string n.data.toList) (.lit (.int .i64 (commit_Back.num s n)))) := by
 intro m hm
 by_cases hk : m = n
 ·subst hk
  exact Maps.atKey_put_same hD M.key_lit _ _
 ·have hne : (Lit.string m.data.toList) ≠ Lit.string n.data.toList := fun q => hk (by
   injection q with q
   cases n; cases m
   exact congrArg ByteArray.mk (Array.toList_inj.1 q))
  rw [Maps.atKey_put_other hne]
  rcases List.mem_append.1 hm with hm | hm
  ·exact h m hm
  ·exact absurd (List.mem_singleton.1 hm) hk
structure commit_Knots.At (l : List Int) (D : DataW Unit) : Prop where
  has : ∀ n, Maps.has D (.int .i64 n) = decide (n ∈ l)
  at_ : ∀ n, n ∈ l → D.atKey (.int .i64 n) (.lit (.int .i64 0)) = .lit (.int .i64 (M.fst_ l n : Nat))
theorem commit_Knots.key_int {n : Int} : WideAt.IsKeyLit (.int .i64 n) := by first | trivial | exact True.intro | (unfold WideAt.IsKeyLit; trivial) | simp [WideAt.IsKeyLit]
theorem commit_Knots.fst_old {l : List Int} {n x : Int} (h : n ∈ l) : M.fst_ (l ++ [x]) n = M.fst_ l n := by
 have h1 := (M.fst_spec h).1
 unfold M.fst_ at h1 ⊢
 rw [List.findIdx_append, if_pos h1]
theorem commit_Knots.fst_new {l : List Int} {x : Int} (h : x ∉ l) : M.fst_ (l ++ [x]) x = l.length := by
 have h1 : l.findIdx (fun y => y == x) = l.length := List.findIdx_eq_length_of_false (fun y hy => by
  have : y ≠ x := fun e => h (e ▸ hy)
  simp [this])
 unfold M.fst_
 rw [List.findIdx_append, h1, if_neg (Nat.lt_irrefl _)]
 simp [List.findIdx_cons]
theorem commit_Knots.At.put {l : List Int} {D : DataW Unit} (h : commit_Knots.At l D) (hD : Maps.IsMap D) (x : Int) (hx : x ∉ l) : commit_Knots.At (l ++ [x]) (D.put (.int .i64 x) (.lit (.int .i64 (l.length : Nat)))) := by
 constructor
 ·intro n
  by_cases hk : n = x
  ·subst hk
   rw [Maps.has_put_same hD commit_Knots.key_int]
   simp
  ·rw [Maps.has_put_other (fun q => hk (by injection q)), h.has n]
   simp [hk]
 ·intro n hn
  by_cases hk : n = x
  ·subst hk
   rw [Maps.atKey_put_same hD commit_Knots.key_int, commit_Knots.fst_new hx]
  ·have hn1 : n ∈ l := (List.mem_append.1 hn).resolve_right (fun e => hk (List.mem_singleton.1 e))
   rw [Maps.atKey_put_other (fun q => hk (by injection q)), h.at_ n hn1, commit_Knots.fst_old hn1]
theorem commit_Knots.At.keys {l ss : List Int} {D : DataW Unit} {W : World} {b n : Nat} (h : commit_Knots.At l D) (hm : W.ownsMap Tryd.prog 3 (plainElem (H := Unit) Tryd.prog 3) b n D) (hp : ss.Perm (intKeys D)) : ss.length = (M.srt l).length ∧ (ss.mergeSort fun x y => decide (x ≤ y)) = M.srt l := by
 obtain ⟨es, hD, hpw, _⟩ := hm.entries (int_keyed Tryd.underlying3)
 obtain ⟨es', hD', hko⟩ := hm.keysOf
 obtain rfl : es = es' := by rw [hD] at hD'; simpa using hD'
 subst hD
 have h1 : (M.srt l).Perm (intKeys (.map es)) := perm_intKeys hpw (fun p hp => by
  obtain ⟨key, hkey⟩ := hko p hp
  obtain ⟨x, _, e, _⟩ := Maps.keyOf_i64 Tryd.underlying3 hkey
  exact ⟨x, e⟩) (M.up_nodup (M.up_srt l)) (fun x => by rw [h.has x, M.mem_srt]; simp)
 have h2 : ss.Perm (M.srt l) := hp.trans h1.symm
 refine ⟨h2.length_eq, ?_⟩
 rw [mergeSort_of_perm_i h2]
 refine List.mergeSort_of_pairwise ?_
 exact (M.up_srt l).imp (fun h => by simp; omega)
set_option maxRecDepth 100000 in
theorem commit_Knots.entry {w : World} {b n : Nat} {D : DataW Unit} (h : w.ownsMap Tryd.prog 9 (plainElem (H := Unit) Tryd.prog 3) b n D) (hn : n < maxLen) {key : Value} {kl : Lit} (hkey : keyOf Tryd.prog 9 key = some kl) (x : Int) (hw : (Lit.int .i64 x).wf = true) :
    ∃ (v0 : Value) (st : Int) (w1 : World), (Instr.mapEntry 78 (.map (some b)) key).run Tryd.prog w = .ok (.tuple #[v0, .int .i64 st]) w1 ∧ w.grownBy w1 (some b) ∧
      ∃ w3, (Instr.entryStore 78 (.map (some b)) (.int .i64 st) (.int .i64 x)).run Tryd.prog w1 = .ok () w3 ∧ w3.ownsMap Tryd.prog 9 (plainElem (H := Unit) Tryd.prog 3) b (n + 1) (D.put kl (.lit (.int .i64 x))) ∧ w1.grownBy w3 (some b) := by
 obtain ⟨w', hrun, hown, hgr⟩ := h.update (t := 78) (e := 3) (Maps.string_keyed Tryd.underlying9) Tryd.underlying78 hn hkey (plainElem_int (q := .i64) Tryd.underlying3 hw)
 obtain ⟨es, clock, hb, F, hs, rfl⟩ := h
 obtain ⟨v0, st, es1, clock1, hE, _, hS⟩ := Go.WideElems.entry_then_store (P := Tryd.prog) (t := 78) (e := 3) (z := .int .i64 0) (Go.WideMaps.string_law Tryd.underlying9) Tryd.underlying78 (fun u => commit_visit.zero_ u) hb F hkey
 obtain ⟨es2, clock2, hst, hup⟩ := hS (Go.ChangeMaps.setBlock w b (.map es1 clock1)) (.int .i64 x) (Go.ChangeMaps.heap_setBlock_same hb _)
 have hw2 : w' = Go.ChangeMaps.setBlock w b (.map es2 clock2) := by
  have hx := hup.symm.trans hrun
  injection hx with _ hx
  exact hx.symm
 have hb1 := Go.ChangeMaps.heap_setBlock_same hb (.map es1 clock1)
 refine ⟨v0, st, _, hE, ⟨rfl, rfl, rfl, by simp [Go.ChangeMaps.setBlock], fun i _ hi => Go.ChangeMaps.heap_setBlock_other hb _ (fun e => hi (by rw [e]))⟩, _, hst, ?_, ⟨rfl, rfl, rfl, by simp [Go.ChangeMaps.setBlock], fun i _ hi => Go.ChangeMaps.heap_setBlock_other hb1 _ (fun e => hi (by rw [e]))⟩⟩
 obtain ⟨es3, clock3, hb3, F3, hs3, hD3⟩ := hown
 rw [hw2, Go.ChangeMaps.heap_setBlock_same hb] at hb3
 injection hb3 with hb3
 injection hb3 with e1 e2
 subst e1
 subst e2
 exact ⟨_, _, Go.ChangeMaps.heap_setBlock_same hb1 _, F3, hs3, hD3⟩
end
section
open Go.Maps
theorem commit_Knots.b1 {base g : Nat} {F : Nat → Prop} {s : M.SS} {A : Option Addr} {c : Nat} {names : List ByteArray} {w : World} {nl : List ByteArray} {al : List S24} {er : Int} (hS : M.Sh Tryd.prog base w g F s) (hts : ∀ t ∈ s.ts, t.size ≤ 1000000000000) (hl : s.ts.length ≤ 1000000000) (hn : Kd.C Kd.string w A names.length names) (hz : ∀ n ∈ names, n.size ≤ 1000000000000) (h : commit_Back.res s names = (nl, al, er)) :
    Calls Tryd.prog 24 #[.pointer (some ⟨g, 0, none⟩), .slice A names.length c] w fun e w' => ∃ X x Y y, e = .returned (.tuple #[.slice X nl.length x, .slice Y al.length y, .int .i64 er]) ∧ Kd.R Kd.string 9 w' w.heap.size (fun _ => True) (.slice X nl.length x) nl ∧ Kd.R k24 24 w' w.heap.size (fun _ => True) (.slice Y al.length y) al ∧ Below w.heap.size w w' := by
 have := commit_Back.any base g F s A c names w hS hts hl hn hz
 rw [h] at this
 refine this.mono ?_
 rintro e w' ⟨v1, v2, rfl, h1, h2, hb⟩
 obtain ⟨X, x, rfl⟩ := Kd.R_slice h1
 obtain ⟨Y, y, rfl⟩ := Kd.R_slice h2
 exact ⟨X, x, Y, y, rfl, h1, h2, hb⟩
theorem commit_Knots.at_ {W : World} {b q : Nat} {X : Option Addr} {x : Nat} {al : List S24} (h : Kd.R k24 24 W b (fun _ => True) (.slice X al.length x) al) (hq : q < al.length) : ∃ ad B d, X = some ad ∧ W.cell? (ad.add (q * 4)) = some (.int .i64 (al[q]).f0) ∧ W.cell? ⟨(ad.add (q * 4)).block, (ad.add (q * 4)).off + 1, none⟩ = some (.slice B (al[q]).f1.length d) ∧ W.cell? ⟨(ad.add (q * 4)).block, (ad.add (q * 4)).off + 2, none⟩ = some (.string (al[q]).f2) ∧ W.cell? ⟨(ad.add (q * 4)).block, (ad.add (q * 4)).off + 3, none⟩ = some (.string (al[q]).f3) ∧ (al[q]).f1.length ≤ d ∧ Kd.C Kd.string W B (al[q]).f1.length (al[q]).f1 := by
 obtain ⟨ad, B, d, he, e0, e1, e2, e3, hl, hC⟩ := at_T24 (Kd.R_reads' h).2.2 (q : Int) (by omega) (by omega)
 have hrd : rd_T24 al (q : Int) = al[q] := by simp [rd_T24, List.getD, hq]
 rw [hrd, Int.toNat_natCast] at e0 e1 e2 e3
 rw [hrd] at hl hC
 exact ⟨ad, B, d, he, e0, e1, e2, e3, hl, hC⟩
theorem commit_Knots.name_ {W : World} {b q : Nat} {X : Option Addr} {x : Nat} {nl : List ByteArray} (h : Kd.R Kd.string 9 W b (fun _ => True) (.slice X nl.length x) nl) (hq : q < nl.length) : ∃ ad, X = some ad ∧ W.cell? (ad.add q) = some (.string (nl.getD q ByteArray.empty)) := by
 obtain ⟨ad, he, e0⟩ := Kd.at_string (Kd.R_reads' h).2.2 (q : Int) (by omega) (by omega)
 rw [Int.toNat_natCast] at e0
 exact ⟨ad, he, e0⟩
theorem commit_Knots.keyI (n : Int) (h0 : 1 ≤ n) (h1 : n ≤ 4294967295) : keyOf Tryd.prog 3 (.int .i64 n) = some (.int .i64 n) := by
 have hw : (Lit.int .i64 n).wf = true := WalkArith.wf_i64 (by omega)
 simp [keyOf, Tryd.underlying3, mapKey, hw]
theorem commit_Knots.keyS (n : ByteArray) (h : n.size ≤ 1000000000000) : keyOf Tryd.prog 9 (.string n) = some (.string n.data.toList) := Go.WideMaps.keyOf_string_mk Tryd.underlying9 (show n.size ≤ maxLen from by unfold maxLen; omega)
set_option maxRecDepth 100000 in
theorem commit_Knots.look {W : World} {b k : Nat} {l : List Int} {D : DataW Unit} (hm : W.ownsMap Tryd.prog 3 (plainElem (H := Unit) Tryd.prog 3) b k D) (h : commit_Knots.At l D) (n : Int) (hn : n ∈ l) (h0 : 1 ≤ n) (h1 : n ≤ 4294967295) :
    (Instr.lookup 94 (.map (some b)) (.int .i64 n) false).run Tryd.prog W = .ok (.int .i64 (M.fst_ l n : Nat)) W := by
 obtain ⟨c, hrun, hat, _⟩ := hm.lookup_int (t := 94) (int_keyed Tryd.underlying3) Tryd.underlying94 Tryd.underlying3 (commit_visit.zero_ W) (commit_Knots.keyI n h0 h1)
 rw [h.at_ n hn] at hat
 injection hat with h3
 injection h3 with _ h4
 rw [hrun, h4]
theorem commit_Knots.apart {α β : Type} {d : Kd α} {d2 : Kd β} {e e2 base base2 : Nat} {W w1 : World} {v u : Value} {xs : List α} {ys : List β} {ok ok2 : Nat → Prop} (h : d.R e W base ok v xs) (h2 : d2.R e2 W base2 ok2 u ys) (hE : ∀ q ∈ e :: d.E, q ≠ e2) (hg : W.grownBy w1 u.ownBlock) : d.R e w1 base ok v xs :=
  Kd.R_mono (Kd.R_grown (Kd.R_bound h) hg (fun k hk e1 => by
    obtain ⟨_, _, _, q, hq, cells, hc⟩ := hk
    obtain ⟨_, _, c2, hc2⟩ := commit_visit.typed h2 k e1.symm
    rw [hc] at hc2
    injection hc2 with hc2
    injection hc2 with _ h2 _
    exact hE q hq h2)) (fun _ hk => hk.1)
structure commit_Knots.Mid (w0 W : World) (L kb : Nat) (vK vO vP : Value) (n : Int) (ps : List Int) (K : List S62) (O : List ByteArray) : Prop where
  rk : Kd.R k62 62 W w0.heap.size (fun _ => True) vK K
  ro : Kd.R Kd.string 9 W w0.heap.size (fun _ => True) vO O
  rc : M.rec_ W kb 62 [.int .i64 n, vP]
  rp : Kd.R (Kd.int .i64) 3 W w0.heap.size (fun j => L ≤ j) vP ps
  low : Below w0.heap.size w0 W
  lk : ∀ j, vK.ownBlock = some j → j < L
  lw : L ≤ W.heap.size
  kl : L ≤ kb
section
variable {w0 W w1 : World} {L kb : Nat} {vK vO vP v1 : Value} {n : Int} {ps : List Int} {K : List S62} {O : List ByteArray}
theorem commit_Knots.Mid.below (H : commit_Knots.Mid w0 W L kb vK vO vP n ps K O) (hb : Below W.heap.size W w1) : commit_Knots.Mid w0 w1 L kb vK vO vP n ps K O :=
  ⟨Kd.R_below H.rk hb, Kd.R_below H.ro hb, M.rec_below H.rc hb, Kd.R_below H.rp hb, below_then H.low H.low.size hb, H.lk, Nat.le_trans H.lw hb.size, H.kl⟩
theorem commit_Knots.Mid.ne (H : commit_Knots.Mid w0 W L kb vK vO vP n ps K O) : some kb ≠ vK.ownBlock := fun e => by have := H.lk kb e.symm; have := H.kl; omega
theorem commit_Knots.Mid.pm (H : commit_Knots.Mid w0 W L kb vK vO vP n ps K O) : k62.M W w0.heap.size (fun j => L ≤ j) (⟨n, ps⟩ : S62) [.int .i64 n, vP] := k62_mkM W _ _ (⟨n, ps⟩ : S62) H.rp
theorem commit_Knots.Mid.okp (H : commit_Knots.Mid w0 W L kb vK vO vP n ps K O) (j : Nat) (hj : L ≤ j) : True ∧ some j ≠ vK.ownBlock := ⟨trivial, fun e => by have := H.lk j e.symm; omega⟩
structure commit_Knots.Got (w0 W : World) (kb : Nat) (vK vO vP : Value) (n : Int) (K : List S62) (O : List ByteArray) : Prop where
  rk : Kd.R k62 62 W w0.heap.size (fun _ => True) vK K
  ro : Kd.R Kd.string 9 W w0.heap.size (fun _ => True) vO O
  rc : M.rec_ W kb 62 [.int .i64 n, vP]
  low : Below w0.heap.size w0 W
theorem commit_Knots.Got.below (H : commit_Knots.Got w0 W kb vK vO vP n K O) (hb : Below W.heap.size W w1) : commit_Knots.Got w0 w1 kb vK vO vP n K O :=
  ⟨Kd.R_below H.rk hb, Kd.R_below H.ro hb, M.rec_below H.rc hb, below_then H.low H.low.size hb⟩
theorem commit_Knots.Mid.app (H : commit_Knots.Mid w0 W L kb vK vO vP n ps K O) (hR : Kd.R k62 62 w1 w0.heap.size (fun _ => True) v1 (K ++ [(⟨n, ps⟩ : S62)])) (hb : Below w0.heap.size w0 w1) (hg : W.grownBy w1 vK.ownBlock) : commit_Knots.Got w0 w1 kb v1 vO vP n (K ++ [(⟨n, ps⟩ : S62)]) O :=
  ⟨hR, commit_Knots.apart H.ro H.rk (by decide) hg, M.rec_grown H.rc hg H.ne, hb⟩
end
theorem commit_Knots.cellMap {W : World} {a : Addr} {v : Value} {b k t : Nat} {D : DataW Unit} (h : W.cell? a = some v) (hm : W.ownsMap Tryd.prog t (plainElem (H := Unit) Tryd.prog 3) b k D) : some a.block ≠ some b := fun e => by
  injection e with e
  obtain ⟨es, clock, hb, _⟩ := hm
  rw [← e] at hb
  simp [World.cell?, hb] at h
theorem commit_Knots.low3 {w1 w4 U1 U3 U5 : World} {Bn Ba : Nat} (h : Below w1.heap.size w1 w4) (hn : w1.heap.size ≤ Bn) (ha : w1.heap.size ≤ Ba) (g1 : w4.drew.grownBy U1 (some Bn)) (g3 : U1.grownBy U3 (some Bn)) (g5 : U3.grownBy U5 (some Ba)) : Below w1.heap.size w1 U5 := by
 have h1 : Below w1.heap.size w1 w4.drew := below_drew1 h
 have h2 := h1.grown g1 h1.size (fun j hj => by injection hj with hj; rw [← hj]; exact hn)
 have h3 := h2.grown g3 h2.size (fun j hj => by injection hj with hj; rw [← hj]; exact hn)
 exact h3.grown g5 h3.size (fun j hj => by injection hj with hj; rw [← hj]; exact ha)
theorem commit_Knots.keysRow {l ss : List Int} {D : DataW Unit} {W w6 : World} {b n base : Nat} {v : Value} (h : commit_Knots.At l D) (hm : W.ownsMap Tryd.prog 3 (plainElem (H := Unit) Tryd.prog 3) b n D) (hp : ss.Perm (intKeys D)) (hrow : w6.ownsRow base 3 1 v ss.length ((ss.mergeSort fun x y => decide (x ≤ y)).map encZ)) :
    ∃ AV cV, v = .slice AV (M.srt l).length cV ∧ Kd.R (Kd.int .i64) 3 w6 base (fun _ => True) (.slice AV (M.srt l).length cV) (M.srt l) := by
 obtain ⟨h1, h2⟩ := h.keys hm hp
 rw [h1, h2] at hrow
 have hR : Kd.R (Kd.int .i64) 3 w6 base (fun _ => True) v (M.srt l) := Kd.R_of_own hrow (fun _ _ => trivial)
 obtain ⟨AV, cV, rfl⟩ := Kd.R_slice hR
 exact ⟨AV, cV, rfl, hR⟩
set_option maxRecDepth 100000 in
theorem commit_Knots.lookS {W : World} {b k : Nat} {s : M.SS} {l : List ByteArray} {D : DataW Unit} (hm : W.ownsMap Tryd.prog 9 (plainElem (H := Unit) Tryd.prog 3) b k D) (h : commit_Knots.Num s l D) (p : ByteArray) (hp : p ∈ l) (hz : p.size ≤ 1000000000000) :
    (Instr.lookup 78 (.map (some b)) (.string p) false).run Tryd.prog W = .ok (.int .i64 (commit_Back.num s p)) W := by
 obtain ⟨c, hrun, hat, _⟩ := hm.lookup_int (t := 78) (Maps.string_keyed Tryd.underlying9) Tryd.underlying78 Tryd.underlying3 (commit_visit.zero_ W) (commit_Knots.keyS p hz)
 rw [h p hp] at hat
 injection hat with h3
 injection h3 with _ h4
 rw [hrun, h4]
end
section
open Go.Maps
def commit_Knots.T12 : Bool × List (List Nat × List Nat) := (true, [([], []), ([], []), ([], []), ([1, 2], [1, 2]), ([3], [3]), ([], []), ([], []), ([6], [6]), ([], []), ([8], [8]), ([], []), ([0, 4], [0, 4]), ([11], [11]), ([0, 12, 9, 11, 0, 1, 2, 3, 4, 8, 9, 11], [0, 9, 12]), ([5, 7, 10, 13, 0, 1, 2, 3, 4, 5, 6, 7, 8, 9, 10, 11, 12, 13], [5, 7, 10])])
def commit_Knots.B12 : List Nat := [0, 0, 0, 6, 14, 0, 0, 64, 0, 256, 0, 31, 2079, 6943, 16383]
theorem commit_Knots.tab12 : rtab .any (opsOf Tryd.f27 12) = commit_Knots.T12 := by kernel_rfl
theorem commit_Knots.bits12 : waitsOk commit_Knots.T12.2 commit_Knots.B12 = true := by kernel_rfl
def commit_Knots.T25 : Bool × List (List Nat × List Nat) := (true, [([], []), ([], []), ([1], [1]), ([0, 2], [0, 2]), ([], []), ([], []), ([], []), ([], []), ([6, 7], [6, 7]), ([5, 8], [5, 8]), ([9], [9]), ([10], [10]), ([4, 11, 3], [4, 11]), ([3, 12, 0, 1, 2, 3], [0, 3]), ([12, 13, 0, 1, 2, 3, 4, 5, 6, 7, 8, 9, 10, 11, 12, 13], [4, 12])])
def commit_Knots.B25 : List Nat := [0, 0, 2, 7, 0, 0, 0, 0, 192, 480, 992, 2016, 4095, 8191, 16383]
theorem commit_Knots.tab25 : rtab .any (opsOf Tryd.f27 25) = commit_Knots.T25 := by kernel_rfl
theorem commit_Knots.bits25 : waitsOk commit_Knots.T25.2 commit_Knots.B25 = true := by kernel_rfl
theorem commit_Knots.i62 : (Tryd.prog.info? 62).map (fun i => (i.zero, i.size, i.bytes)) = some (some (.agg #[.int .i64 0, .slice none 0 0]), 2, 32) := by kernel_rfl
theorem commit_Knots.i3 : (Tryd.prog.info? 3).map (fun i => (i.zero, i.size, i.bytes)) = some (some (.int .i64 0), 1, 8) := by kernel_rfl
theorem commit_Knots.le6 {w w1 w6 : World} (h : Below w.heap.size w w1) (h2 : Below w1.heap.size w1 w6) : w.heap.size ≤ w6.heap.size := Nat.le_trans h.size h2.size
theorem commit_Knots.size62 : (Tryd.prog.info? 62).map (·.size) = some 2 := by kernel_rfl
set_option maxHeartbeats 16000000 in
set_option maxRecDepth 100000 in
theorem commit_Knots.any (base g : Nat) (F : Nat → Prop) (s : M.SS) (A : Option Addr) (c : Nat) (names : List ByteArray) (w : World) (hS : M.Sh Tryd.prog base w g F s) (hts : ∀ t ∈ s.ts, t.size ≤ 1000000000000) (hl : s.ts.length ≤ 1000000) (hn : Kd.C Kd.string w A names.length names) (hz : ∀ n ∈ names, n.size ≤ 1000000000000) :
    Calls Tryd.prog 27 #[.pointer (some ⟨g, 0, none⟩), .slice A names.length c] w fun e w' => ∃ v1 v2, e = .returned (.tuple #[v1, v2, .int .i64 (commit_Knots.res s names).2.2]) ∧ Kd.R k62 62 w' w.heap.size (fun _ => True) v1 (commit_Knots.res s names).1 ∧ Kd.R Kd.string 9 w' w.heap.size (fun _ => True) v2 (commit_Knots.res s names).2.1 ∧ Below w.heap.size w w' := by
 obtain ⟨⟨nl, al, er⟩, hres⟩ : ∃ y, commit_Back.res s names = y := ⟨_, rfl⟩
 have HRES := Aside0.mk hres
 have HS := Aside0.mk hS
 have HTS := Aside0.mk hts
 have HN := Aside0.mk hn
 have HZ := Aside0.mk hz
 have hl2 : s.ts.length ≤ 1000000000 := by omega
 have hmm := @run_makeMap Tryd.prog
 clear hS hts hn hz hres
 by_cases her : ¬ er = 0
 ·have x1 : (er == 0) = false := by simp [her]
  have x2 : decide (er = 0) = false := decide_eq_false her
  have HR := Aside0.mk (show commit_Knots.res s names = ([], [], er) from by unfold commit_Knots.res; simp only [HRES.out]; rw [if_neg her])
  go_enter Tryd.func27, Tryd.ntmps27
  go_wp2_with (go_at_call 24; (with_reducible refine (commit_Knots.b1 HS.out HTS.out hl2 HN.out HZ.out HRES.out).mono ?_); rintro e w1 ⟨X, x, Y, y, rfl, hv1, hv2, hb1⟩; have HB1 := Aside0.mk hb1; clear hv1 hv2 hb1)
  exact bodyPost_ret (v := .tuple #[.slice none 0 0, .slice none 0 0, .int .i64 er]) (by simp [results, Tryd.results27, go_sem]) rfl (by rw [HR.out]; exact ⟨_, _, rfl, Kd.R_nil _ _ _ _ _, Kd.R_nil _ _ _ _ _, HB1.out⟩)
 obtain rfl : er = 0 := Decidable.not_not.1 her
 clear her
 have HG := Aside0.mk (commit_Knots.good s names HRES.out)
 have hfew : al.length ≤ 1000000 := Nat.le_trans HG.out.few hl
 have hnl : nl.length = al.length := HG.out.len
 go_enter Tryd.func27, Tryd.ntmps27
 go_upto_region 6 with (go_at_call 24; (with_reducible refine (commit_Knots.b1 HS.out HTS.out hl2 HN.out HZ.out HRES.out).mono ?_); rintro e w1 ⟨X, x, Y, y, rfl, hv1, hv2, hb1⟩; have HV1 := Aside0.mk hv1; have HV2 := Aside0.mk hv2; have HB1 := Aside0.mk hb1; clear hv1 hv2 hb1)
 obtain ⟨W0, hW0⟩ : ∃ W0, (w1.alloc (.map #[] 0)).alloc (.map #[] 0) = W0 := ⟨_, rfl⟩
 rw [hW0]
 obtain ⟨Bn, hBn⟩ : ∃ b, w1.heap.size = b := ⟨_, rfl⟩
 obtain ⟨Ba, hBa⟩ : ∃ b, w1.heap.size + 1 = b := ⟨_, rfl⟩
 have HBn := Aside0.mk (show w1.heap.size ≤ Bn from by omega)
 have HBa := Aside0.mk (show w1.heap.size ≤ Ba from by omega)
 have HBna := Aside0.mk (show some Bn ≠ some Ba from fun e => by injection e with e; omega)
 have HL0 := Aside0.mk (show Below w1.heap.size w1 W0 from hW0 ▸ below_alloc (below_alloc (Below.refl _ _) _) _)
 have HN0 := Aside0.mk (show W0.ownsMap Tryd.prog 9 (plainElem (H := Unit) Tryd.prog 3) Bn 0 (.map []) from by rw [← hW0, ← hBn]; exact (World.ownsMap_made w1 _ _ _).alloc _)
 have HA0 := Aside0.mk (show W0.ownsMap Tryd.prog 3 (plainElem (H := Unit) Tryd.prog 3) Ba 0 (.map []) from by
  have h := World.ownsMap_made (H := Unit) (w1.alloc (.map #[] 0)) Tryd.prog 3 (plainElem (H := Unit) Tryd.prog 3)
  rw [show (w1.alloc (.map #[] 0)).heap.size = w1.heap.size + 1 from by simp, hBa, hW0] at h
  exact h)
 try rw [hBa]
 try rw [hBn]
 clear hBn hBa hW0 hmm
 go_wp2
 go_loopg [37] (al.length) (fun kq v37 wr => ∃ (i : Nat) (Dn Da : DataW Unit), v37 = .int .i64 (i : Int) ∧ i ≤ al.length ∧ Aside0 (kq = al.length - i) ∧ Aside0 (Below w1.heap.size w1 wr) ∧ Aside0 (wr.ownsMap Tryd.prog 9 (plainElem (H := Unit) Tryd.prog 3) Bn i Dn) ∧ Aside0 (wr.ownsMap Tryd.prog 3 (plainElem (H := Unit) Tryd.prog 3) Ba i Da) ∧ Aside0 (commit_Knots.Num s (nl.take i) Dn) ∧ Aside0 (commit_Knots.At ((commit_Knots.ns al).take i) Da) ∧ Aside0 (((commit_Knots.ns al).take i).Nodup))
 case atStart => exact ⟨0, _, _, rfl, Nat.zero_le _, ⟨rfl⟩, HL0, HN0, HA0, ⟨fun m hm => absurd hm List.not_mem_nil⟩, ⟨⟨fun n => rfl, fun n hn => absurd hn List.not_mem_nil⟩⟩, ⟨List.nodup_nil⟩⟩
 case round =>
  clear HL0 HN0 HA0
  obtain ⟨i, Dn, Da, rfl, hi, hkq, HL, HNm, HAm, HNS, HAS, HND⟩ := hrel
  obtain ⟨W3, rfl⟩ : ∃ x, x = wr := ⟨_, rfl⟩
  have hnsl : (commit_Knots.ns al).length = al.length := by simp [commit_Knots.ns]
  by_cases hlt : i < al.length
  ·obtain ⟨aa, P1, p1_, he1, e0, e1, e2, e3, hl1, hC1⟩ := commit_Knots.at_ (Kd.R_below HV2.out HL.out) hlt
   obtain ⟨an, he2, f0⟩ := commit_Knots.name_ (Kd.R_below HV1.out HL.out) (show i < nl.length from by omega)
   subst he1
   subst he2
   obtain ⟨cm, hcm⟩ : ∃ x, al[i] = x := ⟨_, rfl⟩
   obtain ⟨nm, hnm⟩ : ∃ x, nl.getD i ByteArray.empty = x := ⟨_, rfl⟩
   rw [hcm] at e0 e1 e2 e3 hl1 hC1
   rw [hnm] at f0
   have hpos := HG.out.pos cm (hcm ▸ List.getElem_mem hlt)
   have HNUM := Aside0.mk (show commit_Back.num s nm = cm.f0 from by rw [← hnm, ← hcm]; exact HG.out.says i hlt)
   have hnz : nm.size ≤ 1000000000000 := HG.out.size nm (by rw [← hnm]; simp [List.getD, show i < nl.length from by omega])
   have HTN := Aside0.mk (show (commit_Knots.ns al).take (i + 1) = (commit_Knots.ns al).take i ++ [cm.f0] from by
    rw [List.take_succ_eq_append_getElem (by omega)]
    simp [commit_Knots.ns, hcm])
   have HTL := Aside0.mk (show nl.take (i + 1) = nl.take i ++ [nm] from by
    rw [List.take_succ_eq_append_getElem (by omega)]
    simp [← hnm, List.getD, show i < nl.length from by omega])
   have hKEY := commit_Knots.keyI cm.f0 hpos.1 hpos.2.1
   have hw0 : (Lit.int .i64 cm.f0).wf = true := WalkArith.wf_i64 (by omega)
   have hhas := HAS.out.has cm.f0
   have p1 : (i : Int) < (al.length : Int) := by omega
   have p2 : (0 : Int) ≤ (i : Int) := by omega
   have p3 := decide_eq_true p1
   have p4 : (i : Int) < (nl.length : Int) := by omega
   have F0 := Aside0.mk f0
   clear f0 hl1 hC1 hcm hnm
   by_cases hmem : cm.f0 ∈ (commit_Knots.ns al).take i
   ·rw [decide_eq_true hmem] at hhas
    have HR := Aside0.mk (show commit_Knots.res s names = ([], [], 16) from by
     have hx : ¬ (commit_Knots.ns al).Nodup := fun h => by
      have h2 : ((commit_Knots.ns al).take (i + 1)).Nodup := List.Pairwise.sublist (List.take_sublist _ _) h
      rw [HTN.out] at h2
      exact (List.nodup_append.1 h2).2.2 _ hmem _ List.mem_cons_self rfl
     unfold commit_Knots.res
     simp only [HRES.out]
     rw [if_pos trivial, if_neg hx])
    clear hmem
    go_wp2_with (first | ((with_reducible refine gate_store (t := 24) (p := 13) (v := .tmp 41) rfl ?_); refine M.wp_rec_store rfl 24 _ _ rfl W3.heap.size 24 commit_Load.zero_ [.int .i64 cm.f0, .slice P1 cm.f1.length p1_, .string cm.f2, .string cm.f3] rfl rfl (M.rec_new W3 24 commit_Load.zero_) rfl commit_Load.size_ rfl ?_; intro w4 hAx hFx hBx hzx; have hy := hBx _ _ (Nat.le_refl _) (below_alloc (Below.refl _ _) _); have HC4 := Aside0.mk hAx; have HL4 := Aside0.mk (below_step HL.out hy); have HS4 := Aside0.mk (below_drew1 hy); have HN4 := Aside0.mk (HNm.out.kept (grown_of_below hy none) (by simp)); have hA4 := HAm.out.kept (grown_of_below hy none) (by simp); have g0 := M.rec_cell hAx 0 _ rfl; clear hAx hFx hBx hzx hy) | (at_lookup; refine wpList_lookup_own_ok_int _ rfl _ _ 94 rfl 3 3 .i64 (int_keyed Tryd.underlying3) Tryd.underlying94 Tryd.underlying3 (commit_visit.zero_ _) Ba i Da rfl hA4 _ _ rfl hKEY ?_; intro c0 hat hwc))
    exact bodyPost_ret (v := .tuple #[.slice none 0 0, .slice none 0 0, .int .i64 16]) (by simp [results, Tryd.results27, go_sem]) rfl (by rw [HR.out]; exact ⟨_, _, rfl, Kd.R_nil _ _ _ _ _, Kd.R_nil _ _ _ _ _, below_step HB1.out HL4.out⟩)
   ·rw [decide_eq_false hmem] at hhas
    have HMEM := Aside0.mk hmem
    clear hmem
    go_upto_region 12 with (first | ((with_reducible refine gate_store (t := 24) (p := 13) (v := .tmp 41) rfl ?_); refine M.wp_rec_store rfl 24 _ _ rfl W3.heap.size 24 commit_Load.zero_ [.int .i64 cm.f0, .slice P1 cm.f1.length p1_, .string cm.f2, .string cm.f3] rfl rfl (M.rec_new W3 24 commit_Load.zero_) rfl commit_Load.size_ rfl ?_; intro w4 hAx hFx hBx hzx; have hy := hBx _ _ (Nat.le_refl _) (below_alloc (Below.refl _ _) _); have HC4 := Aside0.mk hAx; have HL4 := Aside0.mk (below_step HL.out hy); have HS4 := Aside0.mk (below_drew1 hy); have HN4 := Aside0.mk (HNm.out.kept (grown_of_below hy none) (by simp)); have hA4 := HAm.out.kept (grown_of_below hy none) (by simp); have g0 := M.rec_cell hAx 0 _ rfl; clear hAx hFx hBx hzx hy) | (at_lookup; refine wpList_lookup_own_ok_int _ rfl _ _ 94 rfl 3 3 .i64 (int_keyed Tryd.underlying3) Tryd.underlying94 Tryd.underlying3 (commit_visit.zero_ _) Ba i Da rfl hA4 _ _ rfl hKEY ?_; intro c0 hat hwc))
    have hKS := commit_Knots.keyS nm hnz
    have hin : i < maxLen := by unfold maxLen; omega
    obtain ⟨v0, st, U1, hE, hg1, U3, hST, hown3, hg3⟩ := commit_Knots.entry (World.ownsMap.drew (HN4.out)) hin hKS cm.f0 hw0
    have hA3 : U3.ownsMap Tryd.prog 3 (plainElem (H := Unit) Tryd.prog 3) Ba i Da := ((World.ownsMap.drew hA4).kept hg1 HBna.out.symm).kept hg3 HBna.out.symm
    obtain ⟨U5, hUP, hown5, hg5⟩ := hA3.update (t := 94) (e := 3) (int_keyed Tryd.underlying3) Tryd.underlying94 hin hKEY (plainElem_int (q := .i64) Tryd.underlying3 (WalkArith.wf_i64 (show -9223372036854775808 ≤ (i : Int) ∧ (i : Int) ≤ 9223372036854775807 by omega)))
    have hS0a : w4.drew.cell? (an.add i) = some (.string nm) := ((below_step (Below.refl _ _) HS4.out).cell (World.block_lt_of_cell? W3 _ F0.out)).trans F0.out
    have hS0b : w4.drew.cell? ⟨W3.heap.size, 0, none⟩ = some (.int .i64 cm.f0) := M.rec_cell (M.rec_drew HC4.out) 0 _ rfl
    have hS1a : U1.cell? (an.add i) = some (.string nm) := (World.cell?_of_block (hg1.block _ (World.block_lt_of_cell? _ _ hS0a) (commit_Knots.cellMap hS0a (World.ownsMap.drew HN4.out)))).trans hS0a
    have hS1b : U1.cell? ⟨W3.heap.size, 0, none⟩ = some (.int .i64 cm.f0) := (World.cell?_of_block (hg1.block _ (World.block_lt_of_cell? _ _ hS0b) (commit_Knots.cellMap hS0b (World.ownsMap.drew HN4.out)))).trans hS0b
    have hS3a : U3.cell? (an.add i) = some (.string nm) := (World.cell?_of_block (hg3.block _ (World.block_lt_of_cell? _ _ hS1a) (commit_Knots.cellMap hS0a (World.ownsMap.drew HN4.out)))).trans hS1a
    have hS3b : U3.cell? ⟨W3.heap.size, 0, none⟩ = some (.int .i64 cm.f0) := (World.cell?_of_block (hg3.block _ (World.block_lt_of_cell? _ _ hS1b) (commit_Knots.cellMap hS0b (World.ownsMap.drew HN4.out)))).trans hS1b
    have HU3 := Aside0.mk hown3
    have HU5 := Aside0.mk hown5
    have HG1 := Aside0.mk hg1
    have HG3 := Aside0.mk hg3
    have HG5 := Aside0.mk hg5
    clear hown3 hown5 hg1 hg3 hg5 hA3
    refine start_ (n := 15) (S := fun w' => w'.cell? (an.add i) = some (.string nm) ∧ w'.cell? ⟨W3.heap.size, 0, none⟩ = some (.int .i64 cm.f0)) (ds := [14]) (M.tf [0, 15]) (by kernel_rfl) rfl rfl ⟨hS0a, hS0b⟩ (fun hHeld => ?_)
    refine with_tabW commit_Knots.tab12 commit_Knots.bits12 (fun HT_ HW_ => ?_)
    refine M.pu 0 50 [1, 14] HT_ ?_
    refine M.pu 1 51 [2, 13] HT_ ?_
    refine M.pu 2 52 [3, 12] HT_ ?_
    refine M.pu 3 53 [4, 11] HT_ ?_
    refine M.pu 5 55 [4, 1, 1, 9] HT_ ?_
    refine M.pu 6 56 [4, 1, 2, 8] HT_ ?_
    refine M.pu 8 58 [4, 1, 2, 1, 1, 6] HT_ ?_
    refine M.pu 10 60 [4, 1, 2, 1, 1, 1, 1, 4] HT_ ?_
    refine M.tk 4 54 [7, 1, 1, 1, 1, 4] HT_ HW_ hHeld ?_
    refine M.tk 7 57 [9, 1, 1, 4] HT_ HW_ hHeld ?_
    refine M.tk 9 59 [11, 4] HT_ HW_ hHeld ?_
    refine one_ (i := 11) (N := some 61) (M.tf [12, 3]) rfl rfl (one_of HT_.out (by kernel_rfl)) (by decide) (fun K hK => ?_)
    refine value_ (w1 := ?_) (v := ?_) (by rfl) rfl ?_ ?_
    rotate_left 2
    ·go_simp
     constructor
     ·rfl
     ·rfl
    refine hK.out _ _ ⟨hS1a, hS1b⟩ (fun hHeld => ?_)
    clear hK K
    refine norm_ (a' := ?_) ?_ ?_
    rotate_left
    ·show Act.put _ (some 61) _ = _
     simp only [Act.put, List.setIfInBounds_toArray, List.set_cons_zero, List.set_cons_succ, i64_w, i32_w]
     rfl
    refine M.pu 12 62 [13, 2] HT_ ?_
    refine one_ (i := 13) (N := none) (M.tf [14, 1]) rfl rfl (one_of HT_.out (by kernel_rfl)) (by decide) (fun K hK => ?_)
    refine skip_ (w1 := ?_) (by rfl) rfl ?_ ?_
    rotate_left
    ·go_simp
     rfl
    refine hK.out _ _ ⟨hS3a, hS3b⟩ (fun hHeld => ?_)
    clear hK K
    refine last_ (i := 14) (N := none) (M.tf [15]) rfl rfl (one_of HT_.out (by kernel_rfl)) (by decide) (fun K hK => ?_)
    refine skip_ (w1 := ?_) (by rfl) rfl ?_ ?_
    rotate_left
    ·go_simp
     rfl
    refine hK.out _ _ ?_
    clear hK K
    refine done_ (done_of HT_.out (by kernel_rfl)) ?_
    go_wp2
    go_roundg (al.length - (i + 1))
    case measure => have := hkq.out; omega
    case rel => exact ⟨i + 1, _, _, by go_num, by omega, ⟨rfl⟩, ⟨commit_Knots.low3 HL4.out HBn.out HBa.out HG1.out HG3.out HG5.out⟩, ⟨HU3.out.kept HG5.out HBna.out⟩, HU5, ⟨by rw [HTL.out, ← HNUM.out]; exact HNS.out.put HNm.out.isMap nm⟩, ⟨by rw [HTN.out]; have h := HAS.out.put HAm.out.isMap cm.f0 HMEM.out; rw [List.length_take, hnsl, Nat.min_eq_left hi] at h; exact h⟩, ⟨by rw [HTN.out]; exact List.nodup_append.2 ⟨HND.out, List.nodup_cons.2 ⟨List.not_mem_nil, List.nodup_nil⟩, fun a ha b hb e => HMEM.out (by rw [List.mem_singleton] at hb; rw [← hb, ← e]; exact ha)⟩⟩⟩
  ·obtain rfl : i = al.length := by omega
   have hq1 : nl.take al.length = nl := by rw [← hnl]; exact List.take_length
   have hq2 : (commit_Knots.ns al).take al.length = commit_Knots.ns al := by rw [← hnsl]; exact List.take_length
   rw [hq1] at HNS
   rw [hq2] at HAS HND
   clear hq1 hq2 hlt hi hkq
   obtain ⟨ds, hds⟩ : ∃ x, M.srt (commit_Knots.ns al) = x := ⟨_, rfl⟩
   have HDS := Aside0.mk hds
   have HR := Aside0.mk (show commit_Knots.res s names = (ds.map (commit_Knots.kn s al), ds.map (commit_Knots.nm nl al), 0) from by
    unfold commit_Knots.res
    simp only [HRES.out]
    rw [if_pos trivial, if_pos HND.out, hds])
   have hdl : ds.length ≤ 1000000 := by have := M.srt_len (commit_Knots.ns al); rw [hds, hnsl] at this; omega
   have p3 : decide ((al.length : Int) < (al.length : Int)) = false := decide_eq_false (by omega)
   have hsz := HAm.out.size_le
   clear hds
   go_wp2_with (first | (go_at_call 52; (with_reducible refine (maps_KeysI.box Ba _).mono ?_); rintro e w5 ⟨rfl, rfl⟩) | (go_at_call 51; (with_reducible refine (slices_Sorted_int.keys Ba al.length Da _ W3 HAm.out ?hm ?hb).mono ?_); (case hm => unfold maxLen; omega); (case hb => omega); rintro e w6 ⟨v, ss, rfl, hSS, hrow, hb6⟩; obtain ⟨AV, cV, rfl, hRV⟩ := commit_Knots.keysRow HAS.out HAm.out hSS hrow; rw [HDS.out] at hRV ⊢; have HRV := Aside0.mk hRV; have HB6 := Aside0.mk hb6; clear hSS hrow hb6 hRV))
   have HL6 := Aside0.mk (below_step HL.out HB6.out)
   have HN6 := Aside0.mk (HNm.out.kept (grown_of_below HB6.out none) (by simp))
   have HA6 := Aside0.mk (HAm.out.kept (grown_of_below HB6.out none) (by simp))
   go_loopg [16, 17, 68] (ds.length) (fun kq v16 v17 v68 wr => ∃ (k : Nat) (KS : List S62) (OS : List ByteArray) (AK AO : Option Addr) (ck co : Nat), v16 = .slice AK KS.length ck ∧ v17 = .slice AO OS.length co ∧ v68 = .int .i64 (k : Int) ∧ k ≤ ds.length ∧ Aside0 (kq = ds.length - k) ∧ Aside0 (KS = (ds.take k).map (commit_Knots.kn s al)) ∧ Aside0 (OS = (ds.take k).map (commit_Knots.nm nl al)) ∧ Aside0 (Below w6.heap.size w6 wr) ∧ Aside0 (Kd.R k62 62 wr w6.heap.size (fun _ => True) (.slice AK KS.length ck) KS) ∧ Aside0 (Kd.R Kd.string 9 wr w6.heap.size (fun _ => True) (.slice AO OS.length co) OS))
   case atStart => exact ⟨0, [], [], none, none, 0, 0, rfl, rfl, rfl, Nat.zero_le _, ⟨rfl⟩, ⟨rfl⟩, ⟨rfl⟩, ⟨Below.refl _ _⟩, ⟨Kd.R_nil _ _ _ _ _⟩, ⟨Kd.R_nil _ _ _ _ _⟩⟩
   case round =>
    obtain ⟨k, KS, OS, AK, AO, ck, co, rfl, rfl, rfl, hk, hkq, HKS, HOS, HB7, HRK, HRO⟩ := hrel
    obtain ⟨W7, rfl⟩ : ∃ x, x = wr := ⟨_, rfl⟩
    have HKL := Aside0.mk (show KS.length = k from by rw [HKS.out]; simp; omega)
    have HOL := Aside0.mk (show OS.length = k from by rw [HOS.out]; simp; omega)
    by_cases hlt : k < ds.length
    ·obtain ⟨n, hn⟩ : ∃ x, ds[k] = x := ⟨_, rfl⟩
     have hnm : n ∈ commit_Knots.ns al := (M.mem_srt n _).1 (by rw [HDS.out, ← hn]; exact List.getElem_mem hlt)
     obtain ⟨hq1, hq2, _⟩ := M.fst_spec hnm
     obtain ⟨q, hq⟩ : ∃ x, M.fst_ (commit_Knots.ns al) n = x := ⟨_, rfl⟩
     rw [hq] at hq1 hq2
     have hql : q < al.length := by omega
     obtain ⟨cm, hcm⟩ : ∃ x, al[q] = x := ⟨_, rfl⟩
     obtain ⟨nm, hnn⟩ : ∃ x, nl.getD q ByteArray.empty = x := ⟨_, rfl⟩
     have hcn : cm.f0 = n := by rw [← hcm, ← hq2]; simp [commit_Knots.ns, List.getD, hql]
     have hpos := HG.out.pos cm (hcm ▸ List.getElem_mem hql)
     have HALL := Aside0.mk (HG.out.all cm (hcm ▸ List.getElem_mem hql))
     rw [hcn] at hpos
     have HKN := Aside0.mk (show commit_Knots.kn s al n = ⟨n, cm.f1.map (commit_Back.num s)⟩ from by
      unfold commit_Knots.kn
      rw [hq, show al.getD q z24 = cm from by rw [← hcm]; simp [List.getD, hql]])
     have HNN := Aside0.mk (show commit_Knots.nm nl al n = nm from by unfold commit_Knots.nm; rw [hq, hnn])
     have HTK := Aside0.mk (show ds.take (k + 1) = ds.take k ++ [n] from by rw [List.take_succ_eq_append_getElem hlt, hn])
     have HLK := Aside0.mk (show ∀ W, Below w6.heap.size w6 W → (Instr.lookup 94 (.map (some Ba)) (.int .i64 n) false).run Tryd.prog W = .ok (.int .i64 (q : Int)) W from fun W hW => by
      have h := commit_Knots.look (HA6.out.kept (grown_of_below hW none) (by simp)) HAS.out n hnm hpos.1 hpos.2.1
      rw [hq] at h
      exact h)
     have HLN := Aside0.mk (show ∀ p ∈ cm.f1, ∀ W, Below w6.heap.size w6 W → (Instr.lookup 78 (.map (some Bn)) (.string p) false).run Tryd.prog W = .ok (.int .i64 (commit_Back.num s p)) W from fun p hp W hW => commit_Knots.lookS (HN6.out.kept (grown_of_below hW none) (by simp)) HNS.out p (HALL.out p hp) (hpos.2.2.2 p hp))
     obtain ⟨aa, P1, p1_, he1, e0, e1, e2, e3, hl1, hC1⟩ := commit_Knots.at_ (Kd.R_below HV2.out HL6.out) hql
     obtain ⟨ax, he2, f0⟩ := commit_Knots.name_ (Kd.R_below HV1.out HL6.out) (show q < nl.length from by omega)
     obtain ⟨av, he3, g0⟩ := Kd.at_int (Kd.R_reads' HRV.out).2.2 (k : Int) (by omega) (by omega)
     rw [show rd ds (k : Int) = n from by rw [← hn]; simp [rd, List.getD, hlt], Int.toNat_natCast] at g0
     subst he1
     subst he2
     subst he3
     rw [hcm] at e1 hC1
     rw [hnn] at f0
     have HCX := Aside0.mk (show ∀ W, Below w6.heap.size w6 W → W.cell? (ax.add q) = some (.string nm) from fun W hW => (hW.cell (World.block_lt_of_cell? w6 _ f0)).trans f0)
     have HCA := Aside0.mk hC1
     have hpl : cm.f1.length ≤ 2 := hpos.2.2.1
     have hg1 := (HB7.out.cell (World.block_lt_of_cell? w6 _ g0)).trans g0
     have HE1 := Aside0.mk e1
     have p1 : (k : Int) < (ds.length : Int) := by omega
     have p2 : (0 : Int) ≤ (k : Int) := by omega
     have p3 := decide_eq_true p1
     have p4 : (q : Int) < (al.length : Int) := by omega
     have p5 : (0 : Int) ≤ (q : Int) := by omega
     have p6 : (q : Int) < (nl.length : Int) := by omega
     clear e0 e1 e2 e3 f0 g0 hC1 hcm hnn hn hq hq1 hq2 hnm
     go_wp2_with (first | ((with_reducible refine gate_store (t := 62) (p := 20) (v := .tmp 73) rfl ?_); refine M.wp_rec_store rfl 62 _ _ rfl W7.heap.size 62 [.int .i64 0, .slice none 0 0] [.int .i64 n, .slice none 0 0] rfl rfl (M.rec_new W7 62 [.int .i64 0, .slice none 0 0]) rfl commit_Knots.size62 rfl ?_; intro w8 hAx hFx hBx hzx; have hy := hBx _ _ (Nat.le_refl _) (below_alloc (Below.refl _ _) _); have HC8 := Aside0.mk hAx; have HD8 := Aside0.mk hy; have HB8 := Aside0.mk (below_step HB7.out hy); have hlk := HLK.out w8 HB8.out; have k1 := (HB8.out.cell (World.block_lt_of_cell? w6 _ HE1.out)).trans HE1.out; clear hAx hFx hBx hzx hy))
     obtain ⟨ps, hps⟩ : ∃ x, cm.f1.map (commit_Back.num s) = x := ⟨_, rfl⟩
     have HPS := Aside0.mk hps
     have hpsl : ps.length = cm.f1.length := by rw [← hps]; simp
     rw [hps] at HKN
     clear hps
     go_loopg [82] (cm.f1.length) (fun kq2 v82 wr => ∃ (j : Nat) (JS : List Int) (AP : Option Addr) (pc : Nat), v82 = .int .i64 (j : Int) ∧ j ≤ cm.f1.length ∧ Aside0 (kq2 = cm.f1.length - j) ∧ Aside0 (JS = (cm.f1.take j).map (commit_Back.num s)) ∧ Aside0 (Below W7.heap.size W7 wr) ∧ Aside0 (M.rec_ wr W7.heap.size 62 [.int .i64 n, .slice AP JS.length pc]) ∧ Aside0 (Kd.R (Kd.int .i64) 3 wr W7.heap.size (fun _ => True) (.slice AP JS.length pc) JS))
     case atStart => exact ⟨0, [], none, 0, rfl, Nat.zero_le _, ⟨rfl⟩, ⟨rfl⟩, HD8, HC8, ⟨Kd.R_nil _ _ _ _ _⟩⟩
     case round =>
      clear hlk k1 hg1
      obtain ⟨j, JS, AP, pc, rfl, hj, hkq2, HJS, HD9, HC9, HP9⟩ := hrel
      obtain ⟨W9, rfl⟩ : ∃ x, x = wr := ⟨_, rfl⟩
      have HB9 := Aside0.mk (below_step HB7.out HD9.out)
      have HJL := Aside0.mk (show JS.length = j from by rw [HJS.out]; simp; omega)
      by_cases hlt2 : j < cm.f1.length
      ·obtain ⟨p, hp⟩ : ∃ x, cm.f1[j] = x := ⟨_, rfl⟩
       obtain ⟨ap, he, e0⟩ := Kd.at_string HCA.out (j : Int) (by omega) (by omega)
       rw [show rdOf ByteArray.empty cm.f1 (j : Int) = p from by rw [← hp]; simp [rdOf, List.getD, hlt2], Int.toNat_natCast] at e0
       subst he
       have r0 := (HB9.out.cell (World.block_lt_of_cell? w6 _ e0)).trans e0
       obtain ⟨np, hnp⟩ : ∃ x, commit_Back.num s p = x := ⟨_, rfl⟩
       have hlk := HLN.out p (hp ▸ List.getElem_mem hlt2) _ HB9.out
       rw [hnp] at hlk
       have r1 := M.rec_cell HC9.out 1 _ rfl
       have HJ1 := Aside0.mk (show JS ++ [np] = (cm.f1.take (j + 1)).map (commit_Back.num s) from by rw [List.take_succ_eq_append_getElem hlt2, List.map_append, ← HJS.out, hp]; simp [hnp])
       have HLJ := Aside0.mk (show (JS.length + 1) * 8 ≤ 140737488355328 from by have := HJL.out; omega)
       have p7 : (j : Int) < (cm.f1.length : Int) := by omega
       have p8 : (0 : Int) ≤ (j : Int) := by omega
       have p9 := decide_eq_true p7
       clear e0 hp hnp
       go_wp2_with (first | ((with_reducible refine gate_builtin (b := .append) (xs := #[.tmp 87, .tmp 91]) rfl ?_); at_builtin; refine Kd.R_append (Kd.int .i64) (w0 := W7) W7.heap.size rfl (.tmp 87) (.tmp 91) 60 3 (.int .i64 0) 8 rfl Tryd.underlying60 commit_Knots.i3 rfl (by decide) (by decide) (.slice AP JS.length pc) JS np [.int .i64 np] (fun _ => True) (fun _ => False) rfl rfl (by exact rfl) (fun _ hk => hk.elim) (fun _ _ => trivial) HP9.out HD9.out HD9.out.size HLJ.out ?_; intro v10 w10 ho hb hg hat; obtain ⟨A10, c10, rfl⟩ := Kd.R_slice ho; have hk10 := M.rec_grown HC9.out hg (commit_visit.nb HP9.out HC9.out (by decide)); have r2 := M.rec_cell hk10 1 _ rfl; have r3 := M.rec_free hk10 1; have HC10 := Aside0.mk hk10; have HO10 := Aside0.mk ho; have HD10 := Aside0.mk hb; clear ho hb hg hat hk10))
       go_roundg (cm.f1.length - (j + 1))
       case measure => have := hkq2.out; omega
       case rel => exact ⟨j + 1, JS ++ [np], A10, c10, by go_num, by omega, ⟨rfl⟩, HJ1, ⟨HD10.out.setCell (p := ⟨W7.heap.size, 1, none⟩) (Nat.le_refl _) _⟩, ⟨by simpa using M.rec_set HC10.out 1 (.slice A10 (JS ++ [np]).length c10)⟩, ⟨by simpa using Kd.R_set HO10.out HC10.out (by decide) 1 (.slice A10 (JS ++ [np]).length c10)⟩⟩
      ·obtain rfl : j = cm.f1.length := by omega
       have hjs := HJS.out
       rw [List.take_length, HPS.out] at hjs
       subst hjs
       have p9 : decide ((cm.f1.length : Int) < (cm.f1.length : Int)) = false := decide_eq_false (by omega)
       have HLK5 := Aside0.mk (show (KS.length + 1) * 32 ≤ 140737488355328 from by have := HKL.out; omega)
       have HLO5 := Aside0.mk (show (OS.length + 1) * 16 ≤ 140737488355328 from by have := HOL.out; omega)
       have hMd : commit_Knots.Mid w6 W9.drew W7.heap.size W7.heap.size (.slice AK KS.length ck) (.slice AO OS.length co) (.slice AP JS.length pc) n JS KS OS := (show commit_Knots.Mid w6 W9 W7.heap.size W7.heap.size (.slice AK KS.length ck) (.slice AO OS.length co) (.slice AP JS.length pc) n JS KS OS from ⟨Kd.R_below HRK.out HD9.out, Kd.R_below HRO.out HD9.out, HC9.out, Kd.R_lower (Kd.R_mono (Kd.R_bound HP9.out) (fun j hj => hj.2.1)) HB7.out.size, HB9.out, fun j hj => (commit_visit.typed HRK.out j hj).2.1, HD9.out.size, Nat.le_refl _⟩).below (below_drew1 (Below.refl _ _))
       go_wp2
       refine start_ (n := 15) (S := fun w' => w'.cell? ⟨W7.heap.size, 0, none⟩ = some (.int .i64 n) ∧ w'.cell? ⟨W7.heap.size, 1, none⟩ = some (.slice AP JS.length pc) ∧ (Instr.lookup 94 (.map (some Ba)) (.int .i64 n) false).run Tryd.prog w' = .ok (.int .i64 (q : Int)) w' ∧ w'.cell? (ax.add q) = some (.string nm)) (ds := [12]) (M.tf [0, 15]) (by kernel_rfl) rfl rfl ⟨M.rec_cell hMd.rc 0 _ rfl, M.rec_cell hMd.rc 1 _ rfl, HLK.out _ hMd.low, HCX.out _ hMd.low⟩ (fun hHeld => ?_)
       refine with_tabW commit_Knots.tab25 commit_Knots.bits25 (fun HT_ HW_ => ?_)
       refine M.pu 0 95 [1, 14] HT_ ?_
       refine M.pu 4 99 [1, 3, 1, 10] HT_ ?_
       refine M.pu 5 100 [1, 3, 2, 9] HT_ ?_
       refine M.pu 6 101 [1, 3, 3, 8] HT_ ?_
       refine M.pu 7 102 [1, 3, 4, 7] HT_ ?_
       refine M.tk 1 96 [2, 2, 4, 7] HT_ HW_ hHeld ?_
       refine M.tk 8 103 [2, 2, 5, 6] HT_ HW_ hHeld ?_
       refine M.pu 9 104 [2, 2, 6, 5] HT_ ?_
       refine M.tk 10 105 [2, 2, 7, 4] HT_ HW_ hHeld ?_
       refine join_ (σ := Nat × Value × Nat) 3 (M.tf [12, 3]) (fun s => [(97, .slice (some ⟨s.1, 0, none⟩) 1 1), (98, s.2.1), (106, .slice (some ⟨s.2.2, 0, none⟩) 1 1)]) (fun s w' => commit_Knots.Got w6 w' W7.heap.size s.2.1 (.slice AO OS.length co) (.slice AP JS.length pc) n (KS ++ [⟨n, JS⟩]) OS ∧ M.rec_ w' s.2.2 9 [.string nm]) ?_ ?_
       rotate_left
       ·intro hCont
        refine two_ (i := 2) (j := 11) (Ni := some 97) (Nj := some 106) (M.tf [3, 1, 7, 4]) (M.tf [2, 2, 8, 3]) rfl rfl rfl rfl (two_of HT_.out (by kernel_rfl)) (by decide) (by decide) (fun K hK => ?_) (fun K hK => ?_)
        ·skip
         refine commit_visit.row1 97 62 [.int .i64 n, .slice AP JS.length pc] (by rfl) (by rfl) (by go_simp; try rfl) ?_
         intro q2_ w2_ hN2 hb2_
         have hM2 := hMd.below hb2_
         refine hK.out _ _ ⟨M.rec_cell hM2.rc 0 _ rfl, M.rec_cell hM2.rc 1 _ rfl, HLK.out _ hM2.low, HCX.out _ hM2.low⟩ (fun hHeld => ?_)
         clear hK K
         refine norm_ (a' := ?_) ?_ ?_
         rotate_left
         ·show Act.put _ (some 97) _ = _
          simp only [Act.put, List.setIfInBounds_toArray, List.set_cons_zero, List.set_cons_succ, i64_w, i32_w]
          rfl
         refine two_ (i := 3) (j := 11) (Ni := some 98) (Nj := some 106) (M.tf [11, 4]) (M.tf [3, 1, 8, 3]) rfl rfl rfl rfl (two_of HT_.out (by kernel_rfl)) (by decide) (by decide) (fun K hK => ?_) (fun K hK => ?_)
         ·skip
          refine commit_visit.app k62 (w0 := w6) w6.heap.size (by rfl) (.tmp 95) (.tmp 97) _ 62 rfl Tryd.underlying55 _ _ commit_Knots.i62 rfl (by decide) (by decide) (.slice AK KS.length ck) KS ⟨n, JS⟩ [.int .i64 n, .slice AP JS.length pc] q2_ (fun _ => True) _ (by rfl) (by rfl) hM2.rk hN2 rfl hM2.pm hM2.okp (fun _ _ => trivial) hM2.low hM2.low.size HLK5.out ?_
          intro v3_ w3_ hR3 hb3_ hg3_ _
          have hM3 := hM2.app hR3 hb3_ hg3_
          refine hK.out _ _ ⟨M.rec_cell hM3.rc 0 _ rfl, M.rec_cell hM3.rc 1 _ rfl, HLK.out _ hM3.low, HCX.out _ hM3.low⟩ (fun hHeld => ?_)
          clear hK K
          refine norm_ (a' := ?_) ?_ ?_
          rotate_left
          ·show Act.put _ (some 98) _ = _
           simp only [Act.put, List.setIfInBounds_toArray, List.set_cons_zero, List.set_cons_succ, i64_w, i32_w]
           rfl
          refine one_ (i := 11) (N := some 106) (M.tf [12, 3]) rfl rfl (one_of HT_.out (by kernel_rfl)) (by decide) (fun K hK => ?_)
          refine commit_visit.row1 106 9 [.string nm] (by rfl) (by rfl) (by go_simp; try rfl) ?_
          intro q11_ w11_ hC11 hb11_
          have hM11 := hM3.below hb11_
          refine hK.out _ _ ⟨M.rec_cell hM11.rc 0 _ rfl, M.rec_cell hM11.rc 1 _ rfl, HLK.out _ hM11.low, HCX.out _ hM11.low⟩ (fun hHeld => ?_)
          clear hK K
          refine norm_ (a' := ?_) ?_ ?_
          rotate_left
          ·show Act.put _ (some 106) _ = _
           simp only [Act.put, List.setIfInBounds_toArray, List.set_cons_zero, List.set_cons_succ, i64_w, i32_w]
           rfl
          exact norm_ (by simp only [putAll, Act.put, List.setIfInBounds_toArray, List.set_cons_zero, List.set_cons_succ]) (hCont ⟨q2_, v3_, q11_⟩ _ ⟨hM11, hC11⟩)
         ·skip
          refine commit_visit.row1 106 9 [.string nm] (by rfl) (by rfl) (by go_simp; try rfl) ?_
          intro q11_ w11_ hC11 hb11_
          have hM11 := hM2.below hb11_
          have hN11 := M.rec_below hN2 hb11_
          refine hK.out _ _ ⟨M.rec_cell hM11.rc 0 _ rfl, M.rec_cell hM11.rc 1 _ rfl, HLK.out _ hM11.low, HCX.out _ hM11.low⟩ (fun hHeld => ?_)
          clear hK K
          refine norm_ (a' := ?_) ?_ ?_
          rotate_left
          ·show Act.put _ (some 106) _ = _
           simp only [Act.put, List.setIfInBounds_toArray, List.set_cons_zero, List.set_cons_succ, i64_w, i32_w]
           rfl
          refine one_ (i := 3) (N := some 98) (M.tf [12, 3]) rfl rfl (one_of HT_.out (by kernel_rfl)) (by decide) (fun K hK => ?_)
          refine commit_visit.app k62 (w0 := w6) w6.heap.size (by rfl) (.tmp 95) (.tmp 97) _ 62 rfl Tryd.underlying55 _ _ commit_Knots.i62 rfl (by decide) (by decide) (.slice AK KS.length ck) KS ⟨n, JS⟩ [.int .i64 n, .slice AP JS.length pc] q2_ (fun _ => True) _ (by rfl) (by rfl) hM11.rk hN11 rfl hM11.pm hM11.okp (fun _ _ => trivial) hM11.low hM11.low.size HLK5.out ?_
          intro v3_ w3_ hR3 hb3_ hg3_ _
          have hM3 := hM11.app hR3 hb3_ hg3_
          have hC3 := M.rec_grown hC11 hg3_ (commit_visit.nb hM11.rk hC11 (by decide))
          refine hK.out _ _ ⟨M.rec_cell hM3.rc 0 _ rfl, M.rec_cell hM3.rc 1 _ rfl, HLK.out _ hM3.low, HCX.out _ hM3.low⟩ (fun hHeld => ?_)
          clear hK K
          refine norm_ (a' := ?_) ?_ ?_
          rotate_left
          ·show Act.put _ (some 98) _ = _
           simp only [Act.put, List.setIfInBounds_toArray, List.set_cons_zero, List.set_cons_succ, i64_w, i32_w]
           rfl
          exact norm_ (by simp only [putAll, Act.put, List.setIfInBounds_toArray, List.set_cons_zero, List.set_cons_succ]) (hCont ⟨q2_, v3_, q11_⟩ _ ⟨hM3, hC3⟩)
        ·skip
         refine commit_visit.row1 106 9 [.string nm] (by rfl) (by rfl) (by go_simp; try rfl) ?_
         intro q11_ w11_ hC11 hb11_
         have hM11 := hMd.below hb11_
         refine hK.out _ _ ⟨M.rec_cell hM11.rc 0 _ rfl, M.rec_cell hM11.rc 1 _ rfl, HLK.out _ hM11.low, HCX.out _ hM11.low⟩ (fun hHeld => ?_)
         clear hK K
         refine norm_ (a' := ?_) ?_ ?_
         rotate_left
         ·show Act.put _ (some 106) _ = _
          simp only [Act.put, List.setIfInBounds_toArray, List.set_cons_zero, List.set_cons_succ, i64_w, i32_w]
          rfl
         refine one_ (i := 2) (N := some 97) (M.tf [3, 1, 8, 3]) rfl rfl (one_of HT_.out (by kernel_rfl)) (by decide) (fun K hK => ?_)
         refine commit_visit.row1 97 62 [.int .i64 n, .slice AP JS.length pc] (by rfl) (by rfl) (by go_simp; try rfl) ?_
         intro q2_ w2_ hN2 hb2_
         have hM2 := hM11.below hb2_
         have hC2 := M.rec_below hC11 hb2_
         refine hK.out _ _ ⟨M.rec_cell hM2.rc 0 _ rfl, M.rec_cell hM2.rc 1 _ rfl, HLK.out _ hM2.low, HCX.out _ hM2.low⟩ (fun hHeld => ?_)
         clear hK K
         refine norm_ (a' := ?_) ?_ ?_
         rotate_left
         ·show Act.put _ (some 97) _ = _
          simp only [Act.put, List.setIfInBounds_toArray, List.set_cons_zero, List.set_cons_succ, i64_w, i32_w]
          rfl
         refine one_ (i := 3) (N := some 98) (M.tf [12, 3]) rfl rfl (one_of HT_.out (by kernel_rfl)) (by decide) (fun K hK => ?_)
         refine commit_visit.app k62 (w0 := w6) w6.heap.size (by rfl) (.tmp 95) (.tmp 97) _ 62 rfl Tryd.underlying55 _ _ commit_Knots.i62 rfl (by decide) (by decide) (.slice AK KS.length ck) KS ⟨n, JS⟩ [.int .i64 n, .slice AP JS.length pc] q2_ (fun _ => True) _ (by rfl) (by rfl) hM2.rk hN2 rfl hM2.pm hM2.okp (fun _ _ => trivial) hM2.low hM2.low.size HLK5.out ?_
         intro v3_ w3_ hR3 hb3_ hg3_ _
         have hM3 := hM2.app hR3 hb3_ hg3_
         have hC3 := M.rec_grown hC2 hg3_ (commit_visit.nb hM2.rk hC2 (by decide))
         refine hK.out _ _ ⟨M.rec_cell hM3.rc 0 _ rfl, M.rec_cell hM3.rc 1 _ rfl, HLK.out _ hM3.low, HCX.out _ hM3.low⟩ (fun hHeld => ?_)
         clear hK K
         refine norm_ (a' := ?_) ?_ ?_
         rotate_left
         ·show Act.put _ (some 98) _ = _
          simp only [Act.put, List.setIfInBounds_toArray, List.set_cons_zero, List.set_cons_succ, i64_w, i32_w]
          rfl
         exact norm_ (by simp only [putAll, Act.put, List.setIfInBounds_toArray, List.set_cons_zero, List.set_cons_succ]) (hCont ⟨q2_, v3_, q11_⟩ _ ⟨hM3, hC3⟩)
       rintro ⟨q2_, v3_, q11_⟩ wF ⟨hMF, hCF⟩
       dsimp only at hMF hCF
       obtain ⟨A3_, c3_, rfl⟩ := Kd.R_slice hMF.rk
       have hHeld : wF.cell? ⟨W7.heap.size, 0, none⟩ = some (.int .i64 n) ∧ wF.cell? ⟨W7.heap.size, 1, none⟩ = some (.slice AP JS.length pc) ∧ (Instr.lookup 94 (.map (some Ba)) (.int .i64 n) false).run Tryd.prog wF = .ok (.int .i64 (q : Int)) wF ∧ wF.cell? (ax.add q) = some (.string nm) := ⟨M.rec_cell hMF.rc 0 _ rfl, M.rec_cell hMF.rc 1 _ rfl, HLK.out _ hMF.low, HCX.out _ hMF.low⟩
       refine norm_ (a' := ?_) ?_ ?_
       rotate_left
       ·simp only [putAll, Act.put, List.setIfInBounds_toArray, List.set_cons_zero, List.set_cons_succ]
        rfl
       refine last_ (i := 12) (N := some 107) (M.tf [13, 2]) rfl rfl (one_of HT_.out (by kernel_rfl)) (by decide) (fun K hK => ?_)
       refine commit_visit.app Kd.string (w0 := w6) w6.heap.size (by rfl) (.tmp 99) (.tmp 106) _ 9 rfl Tryd.underlying22 _ _ shelf_Shelf_Put.i9 rfl (by decide) (by decide) (.slice AO OS.length co) OS nm [.string nm] q11_ (fun _ => True) (fun _ => False) (by rfl) (by rfl) hMF.ro hCF rfl (by exact rfl) (fun _ h => h.elim) (fun _ _ => trivial) hMF.low hMF.low.size HLO5.out ?_
       intro v12_ w12_ hR12 hb12_ hg12_ _
       obtain ⟨A12_, c12_, rfl⟩ := Kd.R_slice hR12
       refine hK.out _ _ ?_
       clear hK K
       refine norm_ (a' := ?_) ?_ ?_
       rotate_left
       ·show Act.put _ (some 107) _ = _
        simp only [Act.put, List.setIfInBounds_toArray, List.set_cons_zero, List.set_cons_succ, i64_w, i32_w]
        rfl
       refine M.pu 13 16 [14, 1] HT_ ?_
       refine M.pu 14 17 [15] HT_ ?_
       refine done_ (done_of HT_.out (by kernel_rfl)) ?_
       go_wp2
       go_roundg (ds.length - (k + 1))
       case measure => (refine Nat.lt_of_lt_of_le ?_ (Nat.le_of_eq hkq.out.symm); omega)
       case rel => exact ⟨k + 1, KS ++ [⟨n, JS⟩], OS ++ [nm], A3_, A12_, c3_, c12_, by simp, by simp, by go_num, by omega, ⟨rfl⟩, ⟨by rw [HTK.out, List.map_append, ← HKS.out]; simp [HKN.out]⟩, ⟨by rw [HTK.out, List.map_append, ← HOS.out]; simp [HNN.out]⟩, ⟨hb12_⟩, ⟨commit_Knots.apart hMF.rk hMF.ro (by decide) hg12_⟩, ⟨hR12⟩⟩
    ·obtain rfl : k = ds.length := by omega
     have p3 : decide ((ds.length : Int) < (ds.length : Int)) = false := decide_eq_false (by omega)
     have hq1 := HKS.out
     have hq2 := HOS.out
     rw [List.take_length] at hq1 hq2
     subst hq1
     subst hq2
     go_wp2
     exact bodyPost_ret (v := .tuple #[.slice AK (ds.map (commit_Knots.kn s al)).length ck, .slice AO (ds.map (commit_Knots.nm nl al)).length co, .int .i64 0]) (by simp [results, Tryd.results27, go_sem]) rfl (by rw [HR.out]; exact ⟨_, _, rfl, Kd.R_lower HRK.out (commit_Knots.le6 HB1.out HL6.out), Kd.R_lower HRO.out (commit_Knots.le6 HB1.out HL6.out), below_step (below_step HB1.out HL6.out) HB7.out⟩)
end
end Go.Proofs.YtikdbklmhjlfoaaDoor.ECommitKnots
