-- Laid by this session's own program (wip/tools/fold.py): this session's texts, cut to what the claim names and put together; Lean checks it.
import Derived.Test.YtikdbklmhjlfoaaDoorVCommitBack1
import Derived.Test.YtikdbklmhjlfoaaDoorVCommitBack3
import Derived.Test.YtikdbklmhjlfoaaDoorVCommitBack9
import Derived.Test.YtikdbklmhjlfoaaDoorVCommitBack10
import Derived.Test.YtikdbklmhjlfoaaDoorVCommitBack12
import Derived.Test.YtikdbklmhjlfoaaDoorVCommitBack5
import Derived.Test.YtikdbklmhjlfoaaDoorVCommitBack6
import Derived.Test.YtikdbklmhjlfoaaDoorVCommitBack8
import Derived.Test.YtikdbklmhjlfoaaDoorXCommitBack1
namespace Go.Proofs.YtikdbklmhjlfoaaDoor.ECommitBack
open Go.RowKit Go.Proofs.YtikdbklmhjlfoaaDoorW.PrintWords Go.Proofs.YtikdbklmhjlfoaaDoorW.PrintLast Go.Proofs.YtikdbklmhjlfoaaDoorW.PrintMore
attribute [local go_sem] M.run_leq M.run_gtr M.run_geq max2_int min2_int max_two min_two max_three min_three max_four min_four
set_option linter.unusedVariables false
set_option linter.unusedSimpArgs false
def pleachref35_Load.f (l0_0 : List ByteArray) (l0_1 : List ByteArray) (a0_2 : ByteArray) (a0_3 : ByteArray) (a1 : ByteArray) : Option (Int × List ByteArray × ByteArray × ByteArray × Bool) := (pleachref16_Get.f l0_0 l0_1 a0_2 a0_3 a1).bind fun bt349 => (if bt349.2 = true then ((pleachref35_Take.f bt349.1).bind fun bt351 => (some (bt351.1, bt351.2.1, bt351.2.2.1, bt351.2.2.2.1, bt351.2.2.2.2))) else (some (0, ([] : List ByteArray), (⟨#[]⟩ : ByteArray), (⟨#[]⟩ : ByteArray), false)))
set_option maxHeartbeats 8000000 in
set_option maxRecDepth 100000 in
theorem pleachref35_Load.calls (A0_0 : Option Addr) (c0_0 : Nat) (l0_0 : List ByteArray) (A0_1 : Option Addr) (c0_1 : Nat) (l0_1 : List ByteArray) (a0_2 : ByteArray) (a0_3 : ByteArray) (a1 : ByteArray) (r1 : Int) (r2 : List ByteArray) (r3 : ByteArray) (r4 : ByteArray) (r5 : Bool) (w : World) (hr0_0 : Kd.C Kd.string w A0_0 l0_0.length l0_0) (hc0_0 : l0_0.length ≤ c0_0) (hr0_1 : Kd.C Kd.string w A0_1 l0_1.length l0_1) (hc0_1 : l0_1.length ≤ c0_1) (h : pleachref35_Load.f l0_0 l0_1 a0_2 a0_3 a1 = some (r1, r2, r3, r4, r5)) :
    Calls Tryd.prog 50 #[.agg #[.slice A0_0 l0_0.length c0_0, .slice A0_1 l0_1.length c0_1, .string a0_2, .string a0_3], .string a1] w fun e w' => ∃ v1_ : Value, e = .returned (.tuple #[.agg #[.int .i64 r1, v1_, .string r3, .string r4], .bool r5]) ∧ Kd.R Kd.string 9 w' w.heap.size (fun _ => True) v1_ r2 ∧ Below w.heap.size w w' := by
 have hu46 := Tryd.underlying46
 have hu24 := Tryd.underlying24
 have HR0_0 := Aside0.mk hr0_0
 have HC0_0 := Aside0.mk hc0_0
 clear hr0_0 hc0_0
 have HR0_1 := Aside0.mk hr0_1
 have HC0_1 := Aside0.mk hc0_1
 clear hr0_1 hc0_1
 have HB := Aside0.mk (Below.refl w.heap.size w)
 have H : ((pleachref16_Get.f l0_0 l0_1 a0_2 a0_3 a1).bind fun bt349 => (if bt349.2 = true then ((pleachref35_Take.f bt349.1).bind fun bt351 => (some (bt351.1, bt351.2.1, bt351.2.2.1, bt351.2.2.2.1, bt351.2.2.2.2))) else (some (0, ([] : List ByteArray), (⟨#[]⟩ : ByteArray), (⟨#[]⟩ : ByteArray), false)))) = some (r1, r2, r3, r4, r5) := h
 clear h
 replace H := Option.bind_eq_some_iff.mp H
 obtain ⟨⟨t349, t350⟩, A30, H⟩ := H
 replace H : (if t350 = true then ((pleachref35_Take.f t349).bind fun bt351 => (some (bt351.1, bt351.2.1, bt351.2.2.1, bt351.2.2.2.1, bt351.2.2.2.2))) else (some (0, ([] : List ByteArray), (⟨#[]⟩ : ByteArray), (⟨#[]⟩ : ByteArray), false))) = some (r1, r2, r3, r4, r5) := H
 have A3 := Aside0.mk A30
 clear A30
 by_cases c4 : t350 = true
 ·subst c4
  have H1 : ((pleachref35_Take.f t349).bind fun bt351 => (some (bt351.1, bt351.2.1, bt351.2.2.1, bt351.2.2.2.1, bt351.2.2.2.2))) = some (r1, r2, r3, r4, r5) := by rw [if_pos rfl] at H; exact H
  clear H
  have H := H1
  clear H1
  replace H := Option.bind_eq_some_iff.mp H
  obtain ⟨⟨t351, t352, t355, t356, t357⟩, A50, H⟩ := H
  replace H : (some (t351, t352, t355, t356, t357)) = some (r1, r2, r3, r4, r5) := H
  have A5 := Aside0.mk A50
  clear A50
  simp only [Option.some.injEq, Prod.mk.injEq] at H
  obtain ⟨rfl, rfl, rfl, rfl, rfl⟩ := H
  go_enter Tryd.func50, Tryd.ntmps50
  go_wp2_with (first | ((with_reducible refine gate_dst (N := 2) rfl ?_); refine M.bx 2 46 (#[.slice A0_0 l0_0.length c0_0, .slice A0_1 l0_1.length c0_1, .string a0_2, .string a0_3]) ?_; intro zaa hg w6 hbox hb; have zab := Aside0.mk (hbox); have zac := M.upG HB hg; have zad := M.upG HB hg; replace HB := M.upS HB hb; clear hb hbox hg) | ((with_reducible refine gate_dst (N := 4) rfl ?_); refine M.bx 4 24 (#[.int .i64 0, .slice none 0 0, .string (⟨#[]⟩ : ByteArray), .string (⟨#[]⟩ : ByteArray)]) ?_; intro zae hg w7 hbox hb; have zaf := Aside0.mk (hbox); have zag := M.upG HB hg; have zah := M.upG HB hg; replace HB := M.upS HB hb; have zai := M.bkL zab hg; have zaj := M.bkG zab hg; replace zab := M.bkB zab hb; clear hb hbox hg; have zak := zai.out; have zal := zaj.out; have zam : w7.cell? ⟨zaa, 0, none⟩ = some (.slice A0_0 l0_0.length c0_0) := (blk_cell zab.out 0).trans rfl; have zan : w7.cell? ⟨zaa, 1, none⟩ = some (.slice A0_1 l0_1.length c0_1) := (blk_cell zab.out 1).trans rfl; have zao : w7.cell? ⟨zaa, 2, none⟩ = some (.string a0_2) := (blk_cell zab.out 2).trans rfl; have zap : w7.cell? ⟨zaa, 3, none⟩ = some (.string a0_3) := (blk_cell zab.out 3).trans rfl; have zaq := blk_frozen zab.out 0; have zar := blk_frozen zab.out 1; have zas := blk_frozen zab.out 2; have zat := blk_frozen zab.out 3) | ((with_reducible refine gate_callee (f := 65) rfl ?_); refine M.goes (some 11) Tryd.func65 #[.agg #[.slice A0_0 l0_0.length c0_0, .slice A0_1 l0_1.length c0_1, .string a0_2, .string a0_3], .string a1] rfl ?_; (with_reducible refine (pleachref16_Get.calls _ _ l0_0 _ _ l0_1 a0_2 a0_3 a1 t349 true _ ?side1 ?side2 ?side3 ?side4 A3.out).mono ?_); (case side1 => exact M.cB HR0_0 HB); (case side2 => exact HC0_0.out); (case side3 => exact M.cB HR0_1 HB); (case side4 => exact HC0_1.out); rintro e w10 ⟨rfl, hb⟩; refine ⟨_, rfl, ?_⟩; replace zab := M.bkB zab hb; replace zaf := M.bkB zaf hb; replace HB := M.upS HB hb; (try clear hb)) | ((with_reducible refine gate_callee (f := 10) rfl ?_); refine M.goes (some 18) Tryd.func10 #[.string t349] rfl ?_; (with_reducible refine (pleachref35_Take.calls t349 t351 t352 t355 t356 t357 _ A5.out).mono ?_); rintro e w11 ⟨v353, rfl, ho0, hb⟩; refine ⟨_, rfl, ?_⟩; have HO354 := Aside0.mk (Kd.R_lower ho0 (below_size (M.up HB))); replace zab := M.bkB zab hb; replace zaf := M.bkB zaf hb; replace HB := M.upS HB hb; (try clear hb); (try clear ho0); have zau : w11.cell? ⟨zae, 0, none⟩ = some (.int .i64 0) := (blk_cell zaf.out 0).trans rfl; have zav : w11.cell? ⟨zae, 1, none⟩ = some (.slice none 0 0) := (blk_cell zaf.out 1).trans rfl; have zaw : w11.cell? ⟨zae, 2, none⟩ = some (.string (⟨#[]⟩ : ByteArray)) := (blk_cell zaf.out 2).trans rfl; have zax : w11.cell? ⟨zae, 3, none⟩ = some (.string (⟨#[]⟩ : ByteArray)) := (blk_cell zaf.out 3).trans rfl; have zay := blk_frozen zaf.out 0; have zaz := blk_frozen zaf.out 1; have zaA := blk_frozen zaf.out 2; have zaB := blk_frozen zaf.out 3; obtain ⟨Ao13, co13, eo13⟩ := Kd.R_slice HO354.out; subst eo13))
  refine bodyPost_ret (results_ct rfl _ _ zae 24 #[.int .i64 t351, .slice Ao13 t352.length co13, .string t355, .string t356] (0, 0) _ rfl (by refine M.fp (cs := #[.int .i64 t351, .slice Ao13 t352.length co13, .string t355, .string (⟨#[]⟩ : ByteArray)]) ?_ 3; refine M.fp (cs := #[.int .i64 t351, .slice Ao13 t352.length co13, .string (⟨#[]⟩ : ByteArray), .string (⟨#[]⟩ : ByteArray)]) ?_ 2; refine M.fp (cs := #[.int .i64 t351, .slice none 0 0, .string (⟨#[]⟩ : ByteArray), .string (⟨#[]⟩ : ByteArray)]) ?_ 1; refine M.fp (cs := #[.int .i64 0, .slice none 0 0, .string (⟨#[]⟩ : ByteArray), .string (⟨#[]⟩ : ByteArray)]) ?_ 0; exact M.bk zaf) Tryd.underlying24 rfl (by kernel_rfl)) rfl ?_
  exact ⟨_, M.eqe, by (with_reducible repeat (first | apply Kd.R_alloc | apply Kd.R_drewN | apply Kd.R_drew)); exact Kd.R_mono (Kd.R_far (p := ⟨zae, 3, none⟩) (Kd.R_far (p := ⟨zae, 2, none⟩) (Kd.R_far (p := ⟨zae, 1, none⟩) (Kd.R_far (p := ⟨zae, 0, none⟩) (Kd.R_types HO354.out zaf.out (by decide)) (fun _ hk => hk.2) (.int .i64 t351)) (fun _ hk => hk.2) (.slice Ao13 t352.length co13)) (fun _ hk => hk.2) (.string t355)) (fun _ hk => hk.2) (.string t356)) (fun _ hk => trivial), M.up HB⟩
 ·replace c4 := Bool.eq_false_iff.mpr c4
  subst c4
  have H1 : (some (0, ([] : List ByteArray), (⟨#[]⟩ : ByteArray), (⟨#[]⟩ : ByteArray), false)) = some (r1, r2, r3, r4, r5) := by rw [if_neg (show ¬ (false = true) by decide)] at H; exact H
  clear H
  have H := H1
  clear H1
  simp only [Option.some.injEq, Prod.mk.injEq] at H
  obtain ⟨rfl, rfl, rfl, rfl, rfl⟩ := H
  go_enter Tryd.func50, Tryd.ntmps50
  go_wp2_with (first | ((with_reducible refine gate_dst (N := 2) rfl ?_); refine M.bx 2 46 (#[.slice A0_0 l0_0.length c0_0, .slice A0_1 l0_1.length c0_1, .string a0_2, .string a0_3]) ?_; intro zaa hg w14 hbox hb; have zab := Aside0.mk (hbox); have zac := M.upG HB hg; have zad := M.upG HB hg; replace HB := M.upS HB hb; clear hb hbox hg) | ((with_reducible refine gate_dst (N := 4) rfl ?_); refine M.bx 4 24 (#[.int .i64 0, .slice none 0 0, .string (⟨#[]⟩ : ByteArray), .string (⟨#[]⟩ : ByteArray)]) ?_; intro zae hg w15 hbox hb; have zaf := Aside0.mk (hbox); have zag := M.upG HB hg; have zah := M.upG HB hg; replace HB := M.upS HB hb; have zai := M.bkL zab hg; have zaj := M.bkG zab hg; replace zab := M.bkB zab hb; clear hb hbox hg; have zaC := zai.out; have zaD := zaj.out; have zaE : w15.cell? ⟨zaa, 0, none⟩ = some (.slice A0_0 l0_0.length c0_0) := (blk_cell zab.out 0).trans rfl; have zaF : w15.cell? ⟨zaa, 1, none⟩ = some (.slice A0_1 l0_1.length c0_1) := (blk_cell zab.out 1).trans rfl; have zaG : w15.cell? ⟨zaa, 2, none⟩ = some (.string a0_2) := (blk_cell zab.out 2).trans rfl; have zaH : w15.cell? ⟨zaa, 3, none⟩ = some (.string a0_3) := (blk_cell zab.out 3).trans rfl; have zaI := blk_frozen zab.out 0; have zaJ := blk_frozen zab.out 1; have zaK := blk_frozen zab.out 2; have zaL := blk_frozen zab.out 3) | ((with_reducible refine gate_callee (f := 65) rfl ?_); refine M.goes (some 11) Tryd.func65 #[.agg #[.slice A0_0 l0_0.length c0_0, .slice A0_1 l0_1.length c0_1, .string a0_2, .string a0_3], .string a1] rfl ?_; (with_reducible refine (pleachref16_Get.calls _ _ l0_0 _ _ l0_1 a0_2 a0_3 a1 t349 false _ ?side1 ?side2 ?side3 ?side4 A3.out).mono ?_); (case side1 => exact M.cB HR0_0 HB); (case side2 => exact HC0_0.out); (case side3 => exact M.cB HR0_1 HB); (case side4 => exact HC0_1.out); rintro e w18 ⟨rfl, hb⟩; refine ⟨_, rfl, ?_⟩; replace zab := M.bkB zab hb; replace zaf := M.bkB zaf hb; replace HB := M.upS HB hb; (try clear hb); have zaM : w18.cell? ⟨zae, 0, none⟩ = some (.int .i64 0) := (blk_cell zaf.out 0).trans rfl; have zaN : w18.cell? ⟨zae, 1, none⟩ = some (.slice none 0 0) := (blk_cell zaf.out 1).trans rfl; have zaO : w18.cell? ⟨zae, 2, none⟩ = some (.string (⟨#[]⟩ : ByteArray)) := (blk_cell zaf.out 2).trans rfl; have zaP : w18.cell? ⟨zae, 3, none⟩ = some (.string (⟨#[]⟩ : ByteArray)) := (blk_cell zaf.out 3).trans rfl; have zaQ := blk_frozen zaf.out 0; have zaR := blk_frozen zaf.out 1; have zaS := blk_frozen zaf.out 2; have zaT := blk_frozen zaf.out 3))
  refine bodyPost_ret (results_ct rfl _ _ zae 24 #[.int .i64 0, .slice none 0 0, .string (⟨#[]⟩ : ByteArray), .string (⟨#[]⟩ : ByteArray)] (0, 0) _ rfl (by refine M.fp (cs := #[.int .i64 0, .slice none 0 0, .string (⟨#[]⟩ : ByteArray), .string (⟨#[]⟩ : ByteArray)]) ?_ 3; refine M.fp (cs := #[.int .i64 0, .slice none 0 0, .string (⟨#[]⟩ : ByteArray), .string (⟨#[]⟩ : ByteArray)]) ?_ 2; refine M.fp (cs := #[.int .i64 0, .slice none 0 0, .string (⟨#[]⟩ : ByteArray), .string (⟨#[]⟩ : ByteArray)]) ?_ 1; refine M.fp (cs := #[.int .i64 0, .slice none 0 0, .string (⟨#[]⟩ : ByteArray), .string (⟨#[]⟩ : ByteArray)]) ?_ 0; exact M.bk zaf) Tryd.underlying24 rfl (by kernel_rfl)) rfl ?_
  exact ⟨_, M.eqe, M.nl, M.up HB⟩
section
theorem pleachref35_Back.in_ (l : List ByteArray) (n : ByteArray) (hl : l.length ≤ 4611686018427387903) : ∃ k, pleachref35_in.f k l n = some (M.hasN l n) := by
 have loop : ∀ (d i : Nat), i + d = l.length → pleachref35_in.l0 (d + 1) n l (l.length : Int) (i : Int) = some (M.hasN (l.drop i) n) := by
  intro d
  induction d with
  | zero =>
   intro i hi
   rw [pleachref35_in.l0, if_neg (by omega), List.drop_of_length_le (by omega)]
   rfl
  | succ d ih =>
   intro i hi
   have hlt : i < l.length := by omega
   have hrd : rdOf ByteArray.empty l (i : Int) = l[i] := by simp [rdOf, List.getD, hlt]
   rw [pleachref35_in.l0, if_pos (by omega), if_pos (by omega), if_pos (by omega), hrd, M.toList_bs, M.toList_bs, M.wrap64_id (by omega) (by omega), show (i : Int) + 1 = ((i + 1 : Nat) : Int) from by omega, ih (i + 1) (by omega), List.drop_eq_getElem_cons hlt]
   unfold M.hasN
   rw [List.any_cons]
   by_cases h : l[i] = n
   ·rw [if_pos (by rw [h]), h]; simp
   ·rw [if_neg (fun z => h (M.bs_inj z))]; simp [h]
 exact ⟨l.length + 1, loop l.length 0 (by omega)⟩
theorem pleachref35_Back.load (s : M.SS) (hl : s.ts.length ≤ 1000000000) (hts : ∀ t ∈ s.ts, t.size ≤ 1000000000000) (n : ByteArray) :
    (commit_visit.ld s n = none → pleachref35_Load.f s.ts (s.ts.map M.shaSum) s.a s.b n = some (0, [], ⟨#[]⟩, ⟨#[]⟩, false)) ∧ ∀ c, commit_visit.ld s n = some c → pleachref35_Load.f s.ts (s.ts.map M.shaSum) s.a s.b n = some (c.f0, c.f1, c.f2, c.f3, true) := by
 have hx : (s.get n).1.size ≤ 1000000000000 := by
  unfold M.SS.get
  cases hi : M.idx (s.ts.map M.shaSum) n.data.toList with
  | none => exact (show (0 : Nat) ≤ 1000000000000 by decide)
  | some i => exact hts _ (M.getD_mem (by have := (M.idx_lt hi).1; simpa using this))
 have hg : pleachref16_Get.f s.ts (s.ts.map M.shaSum) s.a s.b n = some (s.get n) := by
  unfold pleachref16_Get.f
  exact if_pos ⟨rfl, by omega⟩
 have ht : pleachref35_Take.f (s.get n).1 = some (if M.cgood (s.get n).1 then ((M.cN (s.get n).1).1, (M.cP (s.get n).1).1, (M.cG (s.get n).1).1, (M.cT (s.get n).1).1, true) else pleachref35_Take.no) := by
  unfold pleachref35_Take.f
  exact if_pos (by omega)
 unfold pleachref35_Load.f commit_visit.ld
 rw [hg, Option.bind_some, ht]
 by_cases h1 : (s.get n).2 = true
 ·by_cases h2 : M.cgood (s.get n).1
  ·rw [if_pos ⟨h1, h2⟩, if_pos h1, if_pos h2]
   exact ⟨fun h => by (cases h), fun c h => by (obtain rfl := Option.some.inj h; rfl)⟩
  ·rw [if_neg (fun h => h2 h.2), if_pos h1, if_neg h2]
   exact ⟨fun _ => rfl, fun c h => by (cases h)⟩
 ·rw [if_neg (fun h => h1 h.1), if_neg h1]
  exact ⟨fun _ => rfl, fun c h => by (cases h)⟩
structure pleachref35_Back.Rb (w0 W : World) (vN vA : Value) (A : Option Addr) (d : Nat) (ps : List ByteArray) (st : M.BS S24) : Prop where
  rn : Kd.R Kd.string 9 W w0.heap.size (fun _ => True) vN st.names
  ra : Kd.R k24 24 W w0.heap.size (fun j => some j ≠ vN.ownBlock) vA st.all
  re : Kd.C Kd.string w0 A ps.length ps ∨ Kd.R Kd.string 9 W w0.heap.size (fun j => some j ≠ vN.ownBlock) (.slice A ps.length d) ps
  low : Below w0.heap.size w0 W
structure pleachref35_Back.Rm (w0 W : World) (L U : Nat) (vN vA vP : Value) (A : Option Addr) (d : Nat) (ps names : List ByteArray) (all : List S24) (c : S24) : Prop where
  rn : Kd.R Kd.string 9 W w0.heap.size (fun _ => True) vN names
  ra : Kd.R k24 24 W w0.heap.size (fun j => some j ≠ vN.ownBlock) vA all
  re : Kd.C Kd.string w0 A ps.length ps ∨ Kd.R Kd.string 9 W w0.heap.size (fun j => some j ≠ vN.ownBlock) (.slice A ps.length d) ps
  low : Below w0.heap.size w0 W
  rp : Kd.R Kd.string 9 W w0.heap.size (fun j => L ≤ j ∧ j < U) vP c.f1
  ws : w0.heap.size ≤ L
  lu : L ≤ U
  uw : U ≤ W.heap.size
  hv : ∀ j, vN.ownBlock = some j → j < L ∨ U ≤ j
  ha : ∀ j, vA.ownBlock = some j → j < L
section
variable {w0 W w1 : World} {L U d : Nat} {vN vA vP v1 : Value} {A : Option Addr} {ps names : List ByteArray} {all : List S24} {c : S24} {st : M.BS S24}
theorem pleachref35_Back.Rb.below (H : pleachref35_Back.Rb w0 W vN vA A d ps st) (hb : Below W.heap.size W w1) : pleachref35_Back.Rb w0 w1 vN vA A d ps st :=
  ⟨Kd.R_below H.rn hb, Kd.R_below H.ra hb, H.re.imp id (fun h => Kd.R_below h hb), below_then H.low H.low.size hb⟩
theorem pleachref35_Back.Rm.below (H : pleachref35_Back.Rm w0 W L U vN vA vP A d ps names all c) (hb : Below W.heap.size W w1) : pleachref35_Back.Rm w0 w1 L U vN vA vP A d ps names all c :=
  ⟨Kd.R_below H.rn hb, Kd.R_below H.ra hb, H.re.imp id (fun h => Kd.R_below h hb), below_then H.low H.low.size hb, Kd.R_below H.rp hb, H.ws, H.lu, Nat.le_trans H.uw hb.size, H.hv, H.ha⟩
theorem pleachref35_Back.Rb.take (H : pleachref35_Back.Rb w0 W vN vA A d ps st) (hb : Below W.heap.size W w1) (hp : Kd.R Kd.string 9 w1 W.heap.size (fun _ => True) vP c.f1) : pleachref35_Back.Rm w0 w1 W.heap.size w1.heap.size vN vA vP A d ps st.names st.all c := by
 have h := H.below hb
 exact ⟨h.rn, h.ra, h.re, h.low, Kd.R_lower (Kd.R_mono (Kd.R_bound hp) (fun j hj => ⟨hj.2.1, hj.2.2.1⟩)) H.low.size, H.low.size, hb.size, Nat.le_refl _, fun j hj => .inl (commit_visit.typed H.rn j hj).2.1, fun j hj => (commit_visit.typed H.ra j hj).2.1⟩
theorem pleachref35_Back.moved {α : Type} {k : Kd α} {e base : Nat} {v u v1 : Value} {xs : List α} (h : k.R e W base (fun j => some j ≠ v.ownBlock) u xs) (hg : W.grownBy w1 v.ownBlock) (hat : v1.ownBlock = v.ownBlock ∨ ∃ b, v1.ownBlock = some b ∧ W.heap.size ≤ b) : k.R e w1 base (fun j => some j ≠ v1.ownBlock) u xs := by
 refine Kd.R_mono (Kd.R_grown (Kd.R_bound h) hg (fun j hj => hj.1)) (fun j hj => ?_)
 rcases hat with e | ⟨q, e, hq⟩
 ·rw [e]; exact hj.1
 ·rw [e]; intro e2; injection e2 with e2; have := hj.2.2.1; omega
theorem pleachref35_Back.Rm.app (H : pleachref35_Back.Rm w0 W L U vN vA vP A d ps names all c) {n : ByteArray} (hR : Kd.R Kd.string 9 w1 w0.heap.size (fun _ => True) v1 (names ++ [n])) (hb : Below w0.heap.size w0 w1) (hg : W.grownBy w1 vN.ownBlock)
    (hat : v1.ownBlock = vN.ownBlock ∨ ∃ b, v1.ownBlock = some b ∧ W.heap.size ≤ b) : pleachref35_Back.Rm w0 w1 L U v1 vA vP A d ps (names ++ [n]) all c := by
 refine ⟨hR, pleachref35_Back.moved H.ra hg hat, H.re.imp id (fun h => pleachref35_Back.moved h hg hat), hb, Kd.R_grown H.rp hg ?_, H.ws, H.lu, Nat.le_trans H.uw hg.size, ?_, H.ha⟩
 ·intro j hj e
  have := H.hv j e.symm
  omega
 ·intro j hj
  rcases hat with e | ⟨q, e, hq⟩
  ·exact H.hv j (e ▸ hj)
  ·rw [e] at hj; injection hj with hj; exact .inr (hj ▸ Nat.le_trans H.uw hq)
theorem pleachref35_Back.Rm.pm (H : pleachref35_Back.Rm w0 W L U vN vA vP A d ps names all c) : k24.M W w0.heap.size (fun j => L ≤ j ∧ j < U) c [.int .i64 c.f0, vP, .string c.f2, .string c.f3] := k24_mkM W _ _ c H.rp
theorem pleachref35_Back.Rm.okp (H : pleachref35_Back.Rm w0 W L U vN vA vP A d ps names all c) (j : Nat) (hj : L ≤ j ∧ j < U) : some j ≠ vN.ownBlock ∧ some j ≠ vA.ownBlock :=
  ⟨fun e => by have := H.hv j e.symm; omega, fun e => by have := H.ha j e.symm; omega⟩
theorem pleachref35_Back.Rm.fresh (H : pleachref35_Back.Rm w0 W L U vN vA vP A d ps names all c) (j : Nat) (hj : W.heap.size ≤ j) : some j ≠ vN.ownBlock := fun e => by have := (commit_visit.typed H.rn j e.symm).2.1; omega
theorem pleachref35_Back.Rm.fin (H : pleachref35_Back.Rm w0 W L U vN vA vP A d ps names all c) {v2 : Value} (hR : Kd.R k24 24 w1 w0.heap.size (fun j => some j ≠ vN.ownBlock) v2 (all ++ [c])) (hb : Below w0.heap.size w0 w1) (hg : W.grownBy w1 vA.ownBlock) : pleachref35_Back.Rb w0 w1 vN v2 A d ps ⟨names, all ++ [c], false⟩ :=
  ⟨commit_visit.past H.rn H.ra (by decide) hg, hR, H.re.imp id (fun h => commit_visit.past h H.ra (by decide) hg), hb⟩
theorem pleachref35_Back.Rb.row (H : pleachref35_Back.Rb w0 W vN vA A d ps st) : Kd.C Kd.string W A ps.length ps := by
 rcases H.re with h | h
 ·exact Kd.C_below h H.low
 ·exact (Kd.R_reads' h).2.2
theorem pleachref35_Back.Rb.next (H : pleachref35_Back.Rb w0 W vN vA A d ps st) (i : Nat) (hi : i < st.all.length) : ∃ ad A1 c1 cA, vA = .slice (some ad) st.all.length cA ∧ W.cell? ((ad.add (i * 4))) = some (.int .i64 (st.all[i]).f0) ∧ W.cell? ⟨(ad.add (i * 4)).block, (ad.add (i * 4)).off + 1, none⟩ = some (.slice A1 (st.all[i]).f1.length c1) ∧ W.cell? ⟨(ad.add (i * 4)).block, (ad.add (i * 4)).off + 2, none⟩ = some (.string (st.all[i]).f2) ∧ W.cell? ⟨(ad.add (i * 4)).block, (ad.add (i * 4)).off + 3, none⟩ = some (.string (st.all[i]).f3) ∧ pleachref35_Back.Rb w0 W vN vA A1 c1 (st.all[i]).f1 st := by
 obtain ⟨A, cA, rfl, hc, hr⟩ := OwnRow.reads H.ra.2
 obtain ⟨ad, cs, rfl, hl, hM, hcell⟩ := ReadsRow.get_ hr z24 (i : Int) (by omega) (by omega)
 rw [Int.toNat_natCast] at hM hcell
 have e : st.all.getD i z24 = st.all[i] := by simp [List.getD, hi]
 rw [e] at hM
 obtain ⟨v1, rfl, hR⟩ := k24_openM hM
 obtain ⟨A1, c1, rfl⟩ := Kd.R_slice hR
 exact ⟨ad, A1, c1, cA, rfl, hcell 0 _ rfl, by rw [← add_field _ _ 1 (by omega)]; exact hcell 1 _ rfl, by rw [← add_field _ _ 2 (by omega)]; exact hcell 2 _ rfl, by rw [← add_field _ _ 3 (by omega)]; exact hcell 3 _ rfl, H.rn, H.ra, .inr (Kd.R_mono hR (fun j hj => hj.1)), H.low⟩
end
end
section
theorem pleachref35_Back.ld0 (s : M.SS) (A0 A1 : Option Addr) (c0 c1 : Nat) (n : ByteArray) (w : World) (h0 : Kd.C Kd.string w A0 s.ts.length s.ts) (hc0 : s.ts.length ≤ c0) (h1 : Kd.C Kd.string w A1 s.ts.length (s.ts.map M.shaSum)) (hc1 : s.ts.length ≤ c1) (hl : s.ts.length ≤ 1000000000) (hts : ∀ t ∈ s.ts, t.size ≤ 1000000000000) (h : commit_visit.ld s n = none) :
    Calls Tryd.prog 50 #[.agg #[.slice A0 s.ts.length c0, .slice A1 s.ts.length c1, .string s.a, .string s.b], .string n] w fun e w' => ∃ B d, e = .returned (.tuple #[.agg #[.int .i64 0, .slice B 0 d, .string ⟨#[]⟩, .string ⟨#[]⟩], .bool false]) ∧ Below w.heap.size w w' := by
 have h2 := pleachref35_Load.calls A0 c0 s.ts A1 c1 (s.ts.map M.shaSum) s.a s.b n 0 [] ⟨#[]⟩ ⟨#[]⟩ false w h0 hc0 (by rw [List.length_map]; exact h1) (by rw [List.length_map]; exact hc1) ((pleachref35_Back.load s hl hts n).1 h)
 rw [List.length_map] at h2
 refine h2.mono ?_
 rintro e w' ⟨v, rfl, hR, hb⟩
 obtain ⟨B, d, rfl⟩ := Kd.R_slice hR
 exact ⟨B, d, rfl, hb⟩
theorem pleachref35_Back.ld1 (s : M.SS) (A0 A1 : Option Addr) (c0 c1 : Nat) (n : ByteArray) (w : World) (h0 : Kd.C Kd.string w A0 s.ts.length s.ts) (hc0 : s.ts.length ≤ c0) (h1 : Kd.C Kd.string w A1 s.ts.length (s.ts.map M.shaSum)) (hc1 : s.ts.length ≤ c1) (hl : s.ts.length ≤ 1000000000) (hts : ∀ t ∈ s.ts, t.size ≤ 1000000000000) (c : S24) (h : commit_visit.ld s n = some c) :
    Calls Tryd.prog 50 #[.agg #[.slice A0 s.ts.length c0, .slice A1 s.ts.length c1, .string s.a, .string s.b], .string n] w fun e w' => ∃ B d, e = .returned (.tuple #[.agg #[.int .i64 c.f0, .slice B c.f1.length d, .string c.f2, .string c.f3], .bool true]) ∧ Kd.R Kd.string 9 w' w.heap.size (fun _ => True) (.slice B c.f1.length d) c.f1 ∧ Below w.heap.size w w' := by
 have h2 := pleachref35_Load.calls A0 c0 s.ts A1 c1 (s.ts.map M.shaSum) s.a s.b n c.f0 c.f1 c.f2 c.f3 true w h0 hc0 (by rw [List.length_map]; exact h1) (by rw [List.length_map]; exact hc1) ((pleachref35_Back.load s hl hts n).2 c h)
 rw [List.length_map] at h2
 refine h2.mono ?_
 rintro e w' ⟨v, rfl, hR, hb⟩
 obtain ⟨B, d, rfl⟩ := Kd.R_slice hR
 exact ⟨B, d, rfl, hR, hb⟩
theorem pleachref35_Back.ldn (s : M.SS) (A0 A1 : Option Addr) (c0 c1 : Nat) (n : ByteArray) (w : World) (h0 : Kd.C Kd.string w A0 s.ts.length s.ts) (hc0 : s.ts.length ≤ c0) (h1 : Kd.C Kd.string w A1 s.ts.length (s.ts.map M.shaSum)) (hc1 : s.ts.length ≤ c1) (hl : s.ts.length ≤ 1000000000) (hts : ∀ t ∈ s.ts, t.size ≤ 1000000000000) :
    Calls Tryd.prog 50 #[.agg #[.slice A0 s.ts.length c0, .slice A1 s.ts.length c1, .string s.a, .string s.b], .string n] w fun e w' => ∃ B m d y z ok, e = .returned (.tuple #[.agg #[.int .i64 (commit_Back.num s n), .slice B m d, .string y, .string z], .bool ok]) ∧ Below w.heap.size w w' := by
 unfold commit_Back.num
 cases h : commit_visit.ld s n with
 | none =>
  refine (pleachref35_Back.ld0 s A0 A1 c0 c1 n w h0 hc0 h1 hc1 hl hts h).mono ?_
  rintro e w' ⟨B, d, rfl, hb⟩
  exact ⟨_, _, _, _, _, _, rfl, hb⟩
 | some c =>
  refine (pleachref35_Back.ld1 s A0 A1 c0 c1 n w h0 hc0 h1 hc1 hl hts c h).mono ?_
  rintro e w' ⟨B, d, rfl, _, hb⟩
  exact ⟨_, _, _, _, _, _, rfl, hb⟩
theorem pleachref35_Back.inw (l : List ByteArray) (AN : Option Addr) (cN : Nat) (n : ByteArray) (w : World) {base : Nat} {ok : Nat → Prop} (h : Kd.R Kd.string 9 w base ok (.slice AN l.length cN) l) (hl : l.length ≤ 1000000000) (b : Bool) (hb : M.hasN l n = b) :
    Calls Tryd.prog 49 #[.slice AN l.length cN, .string n] w fun e w' => e = .returned (.bool b) ∧ Below w.heap.size w w' := by
 obtain ⟨k, hk⟩ := pleachref35_Back.in_ l n (by omega)
 rw [hb] at hk
 obtain ⟨_, h2, h3⟩ := Kd.R_reads' h
 refine (pleachref35_in.calls k AN cN l n b w h3 h2 hk).mono ?_
 rintro e w' ⟨rfl, hd⟩
 exact ⟨rfl, hd.below⟩
theorem pleachref35_Back.size46 : (Tryd.prog.info? 46).map (·.size) = some 4 := by kernel_rfl
theorem pleachref35_Back.i9 : (Tryd.prog.info? 9).map (fun i => (i.zero, i.size, i.bytes)) = some (some (.string ByteArray.empty), 1, 16) := by kernel_rfl
theorem pleachref35_Back.foldBad (s : M.SS) (ps : List ByteArray) (st : M.BS S24) (k : Nat) (h : ((ps.take k).foldl (M.BS.step (commit_visit.ld s)) st).bad = true) : (ps.foldl (M.BS.step (commit_visit.ld s)) st).bad = true := by
 conv => lhs; rw [← List.take_append_drop k ps]
 rw [List.foldl_append, M.BS.fold_bad _ h]
 exact h
set_option maxHeartbeats 16000000 in
set_option maxRecDepth 100000 in
theorem pleachref35_Back.any (s : M.SS) (A0 A1 : Option Addr) (c0 c1 : Nat) (A : Option Addr) (c : Nat) (names : List ByteArray) (w : World) (h0 : Kd.C Kd.string w A0 s.ts.length s.ts) (hc0 : s.ts.length ≤ c0) (h1 : Kd.C Kd.string w A1 s.ts.length (s.ts.map M.shaSum)) (hc1 : s.ts.length ≤ c1) (hl : s.ts.length ≤ 1000000000) (hts : ∀ t ∈ s.ts, t.size ≤ 1000000000000) (hn : Kd.C Kd.string w A names.length names) :
    Calls Tryd.prog 25 #[.agg #[.slice A0 s.ts.length c0, .slice A1 s.ts.length c1, .string s.a, .string s.b], .slice A names.length c] w fun e w' => ∃ v1 v2, e = .returned (.tuple #[v1, v2, .int .i64 (commit_Back.res s names).2.2]) ∧ Kd.R Kd.string 9 w' w.heap.size (fun _ => True) v1 (commit_Back.res s names).1 ∧ Kd.R k24 24 w' w.heap.size (fun _ => True) v2 (commit_Back.res s names).2.1 ∧ Below w.heap.size w w' := by
 obtain ⟨W0, hW0⟩ : ∃ W0, w.alloc (.cells #[.slice A0 s.ts.length c0, .slice A1 s.ts.length c1, .string s.a, .string s.b] 46) = W0 := ⟨_, rfl⟩
 have HX0 := Aside0.mk (show M.rec_ W0 w.heap.size 46 [.slice A0 s.ts.length c0, .slice A1 s.ts.length c1, .string s.a, .string s.b] from hW0 ▸ M.rec_new w _ [.slice A0 s.ts.length c0, .slice A1 s.ts.length c1, .string s.a, .string s.b])
 have HR0 := Aside0.mk (show pleachref35_Back.Rb w W0 (.slice none 0 0) (.slice none 0 0) A c names ⟨[], [], false⟩ from ⟨Kd.R_nil _ _ _ _ _, Kd.R_nil _ _ _ _ _, .inl hn, hW0 ▸ below_alloc (Below.refl _ _) _⟩)
 have HW0 := Aside0.mk hW0
 have H0 := Aside0.mk h0
 have H1 := Aside0.mk h1
 have HTS := Aside0.mk hts
 have hnl : names.length ≤ 9223372036854775807 := hn.2.1
 clear h0 h1 hts hn hW0
 go_enter Tryd.func25, Tryd.ntmps25
 go_upto_region 1 with (fail)
 rw [HW0.out]
 go_wp2
 go_loopg [7, 8, 9, 10] (s.ts.length + 2) (fun kq v7 v8 v9 v10 wr => ∃ (i : Nat) (AN AA B : Option Addr) (cN cA d : Nat) (ps : List ByteArray) (st : M.BS S24), v7 = .slice AN st.names.length cN ∧ v8 = .slice AA st.all.length cA ∧ v9 = .slice B ps.length d ∧ v10 = .int .i64 (i : Int) ∧ Aside0 (i ≤ s.ts.length + 1) ∧ Aside0 (kq = s.ts.length + 2 - i) ∧ Aside0 (M.rec_ wr w.heap.size 46 [.slice A0 s.ts.length c0, .slice A1 s.ts.length c1, .string s.a, .string s.b]) ∧ Aside0 (pleachref35_Back.Rb w wr (.slice AN st.names.length cN) (.slice AA st.all.length cA) B d ps st) ∧ Aside0 (M.BS.Inv (commit_visit.ld s) (s.ts.map M.shaSum) st) ∧ Aside0 (st.bad = false) ∧ Aside0 ((i ≤ st.all.length ∧ commit_Back.st s names = M.BS.walk (commit_visit.ld s) (fun c => c.f1) (s.ts.length + 1 - i) i (ps.foldl (M.BS.step (commit_visit.ld s)) st)) ∨ (st.all.length < i ∧ commit_Back.st s names = st)))
 case atStart => exact ⟨0, none, none, A, 0, 0, c, names, ⟨[], [], false⟩, rfl, rfl, rfl, rfl, ⟨Nat.zero_le _⟩, ⟨rfl⟩, HX0, HR0, ⟨M.BS.inv0 _ _⟩, ⟨rfl⟩, ⟨.inl ⟨Nat.le_refl _, rfl⟩⟩⟩
 case round =>
  clear HX0 HR0 HW0
  obtain ⟨i, AN, AA, B, cN, cA, d, ps, st, rfl, rfl, rfl, rfl, HI, hkq, HX, HRB, HV, HBAD, HST⟩ := hrel
  have hfw := Aside0.mk (commit_Back.few s HV.out)
  have hal : st.all.length ≤ 1000000000 := Nat.le_trans hfw.out hl
  have hpl : ps.length ≤ 9223372036854775807 := HRB.out.row.2.1
  obtain ⟨W1, rfl⟩ : ∃ x, x = wr := ⟨_, rfl⟩
  by_cases hle : i ≤ st.all.length
  ·have HSW := Aside0.mk (HST.out.resolve_right (fun h => by omega)).2
   have p1 : (i : Int) ≤ (st.all.length : Int) := by omega
   have p3 := decide_eq_true p1
   go_wp2
   go_loopg [7, 8, 30] (ps.length) (fun kq2 v7 v8 v30 wr => ∃ (j : Nat) (AN AA : Option Addr) (cN cA : Nat) (st2 : M.BS S24), v7 = .slice AN st2.names.length cN ∧ v8 = .slice AA st2.all.length cA ∧ v30 = .int .i64 (j : Int) ∧ j ≤ ps.length ∧ Aside0 (kq2 = ps.length - j) ∧ Aside0 (st2 = (ps.take j).foldl (M.BS.step (commit_visit.ld s)) st) ∧ Aside0 (M.rec_ wr w.heap.size 46 [.slice A0 s.ts.length c0, .slice A1 s.ts.length c1, .string s.a, .string s.b]) ∧ Aside0 (pleachref35_Back.Rb w wr (.slice AN st2.names.length cN) (.slice AA st2.all.length cA) B d ps st2) ∧ Aside0 (st2.bad = false))
   case atStart => exact ⟨0, AN, AA, cN, cA, st, rfl, rfl, rfl, Nat.zero_le _, ⟨rfl⟩, ⟨rfl⟩, HX, HRB, HBAD⟩
   case round =>
    clear HX HRB
    obtain ⟨j, AN2, AA2, cN2, cA2, st2, rfl, rfl, rfl, hj, hkq2, HQ, HX, HRB, HBAD2⟩ := hrel
    obtain ⟨W2, rfl⟩ : ∃ x, x = wr := ⟨_, rfl⟩
    have HV2 := Aside0.mk (show M.BS.Inv (commit_visit.ld s) (s.ts.map M.shaSum) st2 from by rw [HQ.out]; exact M.BS.Inv.fold (commit_visit.ld s) (fun n c h => (commit_Back.ld_in s n c h).1) _ HV.out)
    have hal2 : st2.all.length ≤ 1000000000 := Nat.le_trans (commit_Back.few s HV2.out) hl
    have hnl2 : st2.names.length ≤ 1000000000 := by have := HV2.out.len; omega
    by_cases hlt : j < ps.length
    ·obtain ⟨nm, hnm⟩ : ∃ x, ps[j] = x := ⟨_, rfl⟩
     obtain ⟨ad, hB, e0⟩ := Kd.at_string HRB.out.row (j : Int) (by omega) (by omega)
     rw [show rdOf ByteArray.empty ps (j : Int) = nm from by rw [← hnm]; simp [rdOf, List.getD, hlt], Int.toNat_natCast] at e0
     subst hB
     have HE0 := Aside0.mk e0
     have HF1 := Aside0.mk (show (ps.take (j + 1)).foldl (M.BS.step (commit_visit.ld s)) st = M.BS.step (commit_visit.ld s) st2 nm from by rw [commit_Back.fold1 s ps st j hlt, hnm, ← HQ.out])
     have p4 : (j : Int) < (ps.length : Int) := by omega
     have p5 : (0 : Int) ≤ (j : Int) := by omega
     have p6 := decide_eq_true p4
     have HLOW := Aside0.mk HRB.out.low
     clear hnm
     cases hm : M.hasN st2.names nm with
     | true =>
      have HS2 := Aside0.mk (show st2 = (ps.take (j + 1)).foldl (M.BS.step (commit_visit.ld s)) st from by rw [HF1.out]; unfold M.BS.step; rw [if_pos (.inl hm)])
      have HM := Aside0.mk hm
      clear hm
      go_wp2_with (go_at_call 49; (with_reducible refine (pleachref35_Back.inw st2.names AN2 cN2 nm _ HRB.out.rn hnl2 true HM.out).mono ?_); rintro e w1 ⟨rfl, hb⟩; have HX1 := Aside0.mk (M.rec_below HX.out hb); have HR1 := Aside0.mk (HRB.out.below hb); clear hb)
      go_roundg (ps.length - (j + 1))
      case measure => have := hkq2.out; omega
      case rel => exact ⟨j + 1, AN2, AA2, cN2, cA2, st2, rfl, rfl, by go_num, by omega, ⟨rfl⟩, HS2, HX1, HR1, HBAD2⟩
     | false =>
      have HM := Aside0.mk hm
      have hmn : ¬ (M.hasN st2.names nm = true ∨ st2.bad = true) := fun h => h.elim (fun h => by rw [hm] at h; cases h) (fun h => by rw [HBAD2.out] at h; cases h)
      have HMN := Aside0.mk hmn
      clear hm hmn
      cases hld : commit_visit.ld s nm with
      | none =>
       have HL := Aside0.mk hld
       have HSTEP := Aside0.mk (show M.BS.step (commit_visit.ld s) st2 nm = ⟨st2.names, st2.all, true⟩ from by unfold M.BS.step; rw [if_neg HMN.out, hld])
       have HR := Aside0.mk (show commit_Back.res s names = ([], [], 13) from by
        have hb1 : (ps.foldl (M.BS.step (commit_visit.ld s)) st).bad = true := pleachref35_Back.foldBad s ps st (j + 1) (by rw [HF1.out, HSTEP.out])
        unfold commit_Back.res
        simp only []
        rw [HSW.out, M.BS.walk_bad _ _ hb1, if_pos hb1])
       clear hld
       go_wp2_with (first | (go_at_call 49; (with_reducible refine (pleachref35_Back.inw st2.names AN2 cN2 nm _ HRB.out.rn hnl2 false HM.out).mono ?_); rintro e w1 ⟨rfl, hb⟩; have HX1 := Aside0.mk (M.rec_below HX.out hb); have HR1 := Aside0.mk (HRB.out.below hb); clear hb) | ((with_reducible refine gate_dst (N := 38) rfl ?_); (try (refine gate_guard (by rfl) ?_; dsimp only)); refine M.wp_rec_load rfl 46 _ rfl w.heap.size 46 [.slice A0 s.ts.length c0, .slice A1 s.ts.length c1, .string s.a, .string s.b] rfl HX1.out _ Tryd.underlying46 rfl pleachref35_Back.size46 ?_) | (go_at_call 50; (with_reducible refine (pleachref35_Back.ld0 s A0 A1 c0 c1 nm _ (Kd.C_below H0.out HR1.out.low) hc0 (Kd.C_below H1.out HR1.out.low) hc1 hl HTS.out HL.out).mono ?_); rintro e w2 ⟨B2, d2, rfl, hb2⟩; have HB2 := Aside0.mk (below_then HR1.out.low HR1.out.low.size hb2); clear hb2) | ((with_reducible refine gate_store (t := 24) (p := 13) (v := .tmp 41) rfl ?_); refine M.wp_rec_store rfl 24 _ _ rfl w2.heap.size 24 commit_Load.zero_ [.int .i64 0, .slice B2 0 d2, .string ⟨#[]⟩, .string ⟨#[]⟩] rfl rfl (M.rec_new w2 24 commit_Load.zero_) rfl commit_Load.size_ rfl ?_; intro w4 hA4 hF4 hB4 hz4; have HB4 := Aside0.mk (below_step HB2.out (hB4 _ _ (Nat.le_refl _) (below_alloc (Below.refl w2.heap.size w2) _))); clear hA4 hF4 hB4 hz4))
       exact bodyPost_ret (v := .tuple #[.slice none 0 0, .slice none 0 0, .int .i64 13]) (by simp [results, Tryd.results25, go_sem]) rfl (by rw [HR.out]; exact ⟨_, _, rfl, Kd.R_nil _ _ _ _ _, Kd.R_nil _ _ _ _ _, HB4.out⟩)
      | some cm =>
       have HL := Aside0.mk hld
       have HSTEP := Aside0.mk (show M.BS.step (commit_visit.ld s) st2 nm = ⟨st2.names ++ [nm], st2.all ++ [cm], false⟩ from by unfold M.BS.step; rw [if_neg HMN.out, hld])
       have HS2 := Aside0.mk (show (⟨st2.names ++ [nm], st2.all ++ [cm], false⟩ : M.BS S24) = (ps.take (j + 1)).foldl (M.BS.step (commit_visit.ld s)) st from by rw [HF1.out, HSTEP.out])
       have HLN := Aside0.mk (show (st2.names.length + 1) * 16 ≤ 140737488355328 from by omega)
       have HLA := Aside0.mk (show (st2.all.length + 1) * 64 ≤ 140737488355328 from by omega)
       clear hld
       go_wp2_with (first | (go_at_call 49; (with_reducible refine (pleachref35_Back.inw st2.names AN2 cN2 nm _ HRB.out.rn hnl2 false HM.out).mono ?_); rintro e w1 ⟨rfl, hb⟩; have HX1 := Aside0.mk (M.rec_below HX.out hb); have HR1 := Aside0.mk (HRB.out.below hb); clear hb) | ((with_reducible refine gate_dst (N := 38) rfl ?_); (try (refine gate_guard (by rfl) ?_; dsimp only)); refine M.wp_rec_load rfl 46 _ rfl w.heap.size 46 [.slice A0 s.ts.length c0, .slice A1 s.ts.length c1, .string s.a, .string s.b] rfl HX1.out _ Tryd.underlying46 rfl pleachref35_Back.size46 ?_) | (go_at_call 50; (with_reducible refine (pleachref35_Back.ld1 s A0 A1 c0 c1 nm _ (Kd.C_below H0.out HR1.out.low) hc0 (Kd.C_below H1.out HR1.out.low) hc1 hl HTS.out cm HL.out).mono ?_); rintro e w2 ⟨B2, d2, rfl, hp, hb2⟩; have HP2 := Aside0.mk (HR1.out.take hb2 hp); have HX2 := Aside0.mk (M.rec_below HX1.out hb2); clear hp hb2) | ((with_reducible refine gate_store (t := 24) (p := 13) (v := .tmp 41) rfl ?_); refine M.wp_rec_store rfl 24 _ _ rfl w2.heap.size 24 commit_Load.zero_ [.int .i64 cm.f0, .slice B2 cm.f1.length d2, .string cm.f2, .string cm.f3] rfl rfl (M.rec_new w2 24 commit_Load.zero_) rfl commit_Load.size_ rfl ?_; intro w4 hA4 hF4 hB4 hz4; have hy := hB4 _ _ (Nat.le_refl _) (below_alloc (Below.refl w2.heap.size w2) _); have HP4 := Aside0.mk (HP2.out.below hy); have HX4 := Aside0.mk (M.rec_below HX2.out hy); have HC4 := Aside0.mk hA4; clear hA4 hF4 hB4 hz4 hy) | ((with_reducible refine gate_builtin (b := .append) (xs := #[.tmp 45, .tmp 47]) rfl ?_); at_builtin; refine Kd.R_append Kd.string (w0 := w) w.heap.size rfl (.tmp 45) (.tmp 47) 22 9 (.string ByteArray.empty) 16 rfl Tryd.underlying22 pleachref35_Back.i9 rfl (by decide) (by decide) (.slice AN2 st2.names.length cN2) st2.names nm [.string nm] (fun _ => True) (fun _ => False) rfl rfl (by exact rfl) (fun _ hk => hk.elim) (fun _ _ => trivial) HP4.out.rn HP4.out.low HP4.out.low.size HLN.out ?_; intro v5 w5 ho hb hg hat; obtain ⟨A5, c5, rfl⟩ := Kd.R_slice ho; have HP5 := Aside0.mk (HP4.out.app ho hb hg hat); have HX5 := Aside0.mk (M.rec_grown HX4.out hg (commit_visit.nb HP4.out.rn HX4.out (by decide))); have HC5 := Aside0.mk (M.rec_grown HC4.out hg (commit_visit.nb HP4.out.rn HC4.out (by decide))); clear ho hb hg hat) | ((with_reducible refine gate_dst (N := 50) rfl ?_); (try (refine gate_guard (by rfl) ?_; dsimp only)); refine M.wp_rec_load rfl 24 _ rfl w2.heap.size 24 [.int .i64 cm.f0, .slice B2 cm.f1.length d2, .string cm.f2, .string cm.f3] rfl HC5.out _ Tryd.underlying24 rfl commit_Load.size_ ?_) | ((with_reducible refine gate_builtin (b := .append) (xs := #[.tmp 49, .tmp 51]) rfl ?_); at_builtin; refine Kd.R_append k24 (w0 := w) w.heap.size rfl (.tmp 49) (.tmp 51) 49 24 (.agg #[.int .i64 0, .slice none 0 0, .string ⟨#[]⟩, .string ⟨#[]⟩]) 64 rfl Tryd.underlying49 commit_visit.i24 rfl (by decide) (by decide) (.slice AA2 st2.all.length cA2) st2.all cm [.int .i64 cm.f0, .slice B2 cm.f1.length d2, .string cm.f2, .string cm.f3] (fun j => some j ≠ (Value.slice A5 (st2.names ++ [nm]).length c5).ownBlock) _ rfl rfl HP5.out.pm HP5.out.okp HP5.out.fresh HP5.out.ra HP5.out.low HP5.out.low.size HLA.out ?_; intro v6 w6 ho hb hg hat; obtain ⟨A6, c6, rfl⟩ := Kd.R_slice ho; have HX6 := Aside0.mk (M.rec_grown HX5.out hg (commit_visit.nb HP5.out.ra HX5.out (by decide))); have HR6 := Aside0.mk (HP5.out.fin ho hb hg); clear ho hb hg hat))
       go_roundg (ps.length - (j + 1))
       case measure => have := hkq2.out; omega
       case rel => exact ⟨j + 1, A5, A6, c5, c6, ⟨st2.names ++ [nm], st2.all ++ [cm], false⟩, by simp, by simp, by go_num, by omega, ⟨rfl⟩, HS2, HX6, ⟨by simpa using HR6.out⟩, ⟨rfl⟩⟩
    ·obtain rfl : j = ps.length := by omega
     rw [List.take_length] at HQ
     have p6 : decide ((ps.length : Int) < (ps.length : Int)) = false := decide_eq_false (by omega)
     have HSW2 := Aside0.mk (show commit_Back.st s names = M.BS.walk (commit_visit.ld s) (fun c => c.f1) (s.ts.length + 1 - i) i st2 from by rw [HSW.out, ← HQ.out])
     have hfw2 := Aside0.mk (commit_Back.few s HV2.out)
     clear hj
     by_cases hlt2 : i < st2.all.length
     ·obtain ⟨ad, A1, c1', cA3, he, e0, e1, _, _, hN⟩ := HRB.out.next i hlt2
      injection he with he1 _ he2
      subst he1
      subst he2
      obtain ⟨ps2, hps⟩ : ∃ x, (st2.all[i]).f1 = x := ⟨_, rfl⟩
      rw [hps] at e1 hN
      have HRN := Aside0.mk hN
      have HWS := Aside0.mk (show commit_Back.st s names = M.BS.walk (commit_visit.ld s) (fun c => c.f1) (s.ts.length + 1 - (i + 1)) (i + 1) (ps2.foldl (M.BS.step (commit_visit.ld s)) st2) from by
       have h1 := hfw2.out
       rw [HSW2.out, show s.ts.length + 1 - i = s.ts.length + 1 - (i + 1) + 1 from by omega, commit_Back.walk_step s st2 i _ hlt2 HBAD2.out, hps])
      have HI1 := Aside0.mk (show i + 1 ≤ st2.all.length from by omega)
      have HI2 := Aside0.mk (show i + 1 ≤ s.ts.length + 1 from by have := hfw2.out; omega)
      have p7 : (i : Int) < (st2.all.length : Int) := by omega
      have p8 : (0 : Int) ≤ (i : Int) := by omega
      have p9 := decide_eq_true p7
      clear e0 hN hps
      go_wp2
      go_roundg (s.ts.length + 2 - (i + 1))
      case measure => (refine Nat.lt_of_lt_of_le ?_ (Nat.le_of_eq hkq.out.symm); have := HI2.out; omega)
      case rel => exact ⟨i + 1, AN2, some ad, A1, cN2, cA2, c1', ps2, st2, rfl, rfl, rfl, by go_num, HI2, ⟨rfl⟩, HX, HRN, HV2, HBAD2, ⟨.inl ⟨HI1.out, HWS.out⟩⟩⟩
     ·have HE := Aside0.mk (show commit_Back.st s names = st2 from by rw [HSW2.out]; exact commit_Back.walk_stop s st2 i (fun h => hlt2 h.1) _)
      have HI1 := Aside0.mk (show st2.all.length < i + 1 from by omega)
      have HI2 := Aside0.mk (show i + 1 ≤ s.ts.length + 1 from by have := hfw.out; omega)
      have p7 : (st2.all.length : Int) ≤ (i : Int) := by omega
      have p9 : decide ((i : Int) < (st2.all.length : Int)) = false := decide_eq_false (by omega)
      go_wp2
      go_roundg (s.ts.length + 2 - (i + 1))
      case measure => (refine Nat.lt_of_lt_of_le ?_ (Nat.le_of_eq hkq.out.symm); have := HI2.out; omega)
      case rel => exact ⟨i + 1, AN2, AA2, B, cN2, cA2, d, ps, st2, rfl, rfl, rfl, by go_num, HI2, ⟨rfl⟩, HX, HRB, HV2, HBAD2, ⟨.inr ⟨HI1.out, HE.out⟩⟩⟩
  ·have HE := Aside0.mk (HST.out.resolve_left (fun h => by omega)).2
   have p3 : decide ((i : Int) ≤ (st.all.length : Int)) = false := decide_eq_false (by omega)
   have p7 : (st.all.length : Int) < (i : Int) := by omega
   have HL3 := Aside0.mk HRB.out.low
   clear HST hkq HI hle
   have p3n : decide (i ≤ st.all.length) = false := decide_eq_false (by omega)
   go_wp2
   go_loopg [65] (st.all.length) (fun kq3 v65 wr3 => ∃ q : Nat, v65 = .int .i64 (q : Int) ∧ q ≤ st.all.length ∧ Aside0 (kq3 = st.all.length - q) ∧ Aside0 (Below W1.heap.size W1 wr3) ∧ Aside0 ((st.all.take q).any (commit_Back.rotC s) = false))
   case atStart => exact ⟨0, rfl, Nat.zero_le _, ⟨rfl⟩, ⟨Below.refl _ _⟩, ⟨rfl⟩⟩
   case round =>
    obtain ⟨q, rfl, hq, hkq3, HB3, HA3⟩ := hrel
    obtain ⟨W4, rfl⟩ : ∃ x, x = wr := ⟨_, rfl⟩
    by_cases hlt3 : q < st.all.length
    ·obtain ⟨ad, A1', c1', cA2, he, e0, e1, e2, e3, hN⟩ := HRB.out.next q hlt3
     injection he with he1 _ he2
     subst he1
     subst he2
     obtain ⟨cm, hcm⟩ : ∃ x, st.all[q] = x := ⟨_, rfl⟩
     rw [hcm] at e0 e1 e2 e3 hN
     have HCM := Aside0.mk hcm
     have HP := Aside0.mk hN.row
     have hpl2 : cm.f1.length ≤ 9223372036854775807 := hN.row.2.1
     have q0 := (HB3.out.cell (World.block_lt_of_cell? W1 _ e0)).trans e0
     have q1 := (HB3.out.cell (World.block_lt_of_cell? W1 _ e1)).trans e1
     have q2 := (HB3.out.cell (World.block_lt_of_cell? W1 _ e2)).trans e2
     have q3 := (HB3.out.cell (World.block_lt_of_cell? W1 _ e3)).trans e3
     have p4 : (q : Int) < (st.all.length : Int) := by omega
     have p5 : (0 : Int) ≤ (q : Int) := by omega
     have p6 := decide_eq_true p4
     clear e0 e1 e2 e3 hN hcm
     go_wp2_with (first | ((with_reducible refine gate_store (t := 24) (p := 16) (v := .tmp 68) rfl ?_); refine M.wp_rec_store rfl 24 _ _ rfl W4.heap.size 24 commit_Load.zero_ [.int .i64 cm.f0, .slice A1' cm.f1.length c1', .string cm.f2, .string cm.f3] rfl rfl (M.rec_new W4 24 commit_Load.zero_) rfl commit_Load.size_ rfl ?_; intro w4 hA4 hF4 hB4 hz4; have HB4 := Aside0.mk (below_step HB3.out (hB4 _ _ (Nat.le_refl _) (below_alloc (Below.refl W4.heap.size W4) _))); have HC4 := Aside0.mk hA4; have r1 := M.rec_cell hA4 1 _ rfl; clear hA4 hF4 hB4 hz4))
     go_loopg [72] (cm.f1.length) (fun kq4 v72 wr4 => ∃ j : Nat, v72 = .int .i64 (j : Int) ∧ j ≤ cm.f1.length ∧ Aside0 (kq4 = cm.f1.length - j) ∧ Aside0 (Below w4.heap.size w4 wr4) ∧ Aside0 ((cm.f1.take j).any (commit_Back.bad1 s cm) = false))
     case atStart => exact ⟨0, rfl, Nat.zero_le _, ⟨rfl⟩, ⟨Below.refl _ _⟩, ⟨rfl⟩⟩
     case round =>
      clear r1 q0 q1 q2 q3
      obtain ⟨j, rfl, hj, hkq4, HB5, HA5⟩ := hrel
      obtain ⟨W5, rfl⟩ : ∃ x, x = wr := ⟨_, rfl⟩
      have HB35 := Aside0.mk (below_step HB4.out HB5.out)
      by_cases hlt4 : j < cm.f1.length
      ·obtain ⟨nm, hnm⟩ : ∃ x, cm.f1[j] = x := ⟨_, rfl⟩
       obtain ⟨ad2, hA1, e0⟩ := Kd.at_string HP.out (j : Int) (by omega) (by omega)
       rw [show rdOf ByteArray.empty cm.f1 (j : Int) = nm from by rw [← hnm]; simp [rdOf, List.getD, hlt4], Int.toNat_natCast] at e0
       subst hA1
       have q0 := (HB35.out.cell (World.block_lt_of_cell? W1 _ e0)).trans e0
       have HNM := Aside0.mk hnm
       have HX1 := Aside0.mk (M.rec_below HX.out HB35.out)
       have HLOW5 := Aside0.mk (below_then HL3.out HL3.out.size HB35.out)
       have p7 : (j : Int) < (cm.f1.length : Int) := by omega
       have p8 : (0 : Int) ≤ (j : Int) := by omega
       have p9 := decide_eq_true p7
       obtain ⟨nn, hnn⟩ : ∃ x, commit_Back.num s nm = x := ⟨_, rfl⟩
       have HNN := Aside0.mk hnn
       have t0 : W5.cell? ⟨W4.heap.size, 0, none⟩ = some (.int .i64 cm.f0) := M.rec_cell (M.rec_below HC4.out HB5.out) 0 _ rfl
       have HT0 := Aside0.mk t0
       clear e0 hnm
       by_cases hbd : cm.f0 ≤ nn
       ·have x1 := decide_eq_true hbd
        have HR := Aside0.mk (show commit_Back.res s names = ([], [], 16) from by
         unfold commit_Back.res
         simp only []
         rw [HE.out, if_neg (by rw [HBAD.out]; decide), if_pos]
         refine commit_Back.hit _ _ q hlt3 ?_
         rw [HCM.out]
         refine commit_Back.hit _ _ j hlt4 ?_
         rw [HNM.out]
         unfold commit_Back.bad1
         rw [HNN.out]
         exact decide_eq_true hbd)
        go_wp2_with (first | ((with_reducible refine gate_dst (N := 77) rfl ?_); (try (refine gate_guard (by rfl) ?_; dsimp only)); refine M.wp_rec_load rfl 46 _ rfl w.heap.size 46 [.slice A0 s.ts.length c0, .slice A1 s.ts.length c1, .string s.a, .string s.b] rfl HX1.out _ Tryd.underlying46 rfl pleachref35_Back.size46 ?_) | (go_at_call 50; (with_reducible refine (pleachref35_Back.ldn s A0 A1 c0 c1 nm _ (Kd.C_below H0.out HLOW5.out) hc0 (Kd.C_below H1.out HLOW5.out) hc1 hl HTS.out).mono ?_); rw [HNN.out]; rintro e w6 ⟨B6, m6, d6, y6, z6, ok6, rfl, hb6⟩; have HB6 := Aside0.mk (below_step HLOW5.out hb6); have HD6 := Aside0.mk (below_step HB5.out hb6); clear hb6) | ((with_reducible refine gate_store (t := 24) (p := 19) (v := .tmp 80) rfl ?_); refine M.wp_rec_store rfl 24 _ _ rfl w6.heap.size 24 commit_Load.zero_ [.int .i64 nn, .slice B6 m6 d6, .string y6, .string z6] rfl rfl (M.rec_new w6 24 commit_Load.zero_) rfl commit_Load.size_ rfl ?_; intro w7 hA7 hF7 hB7 hz7; have hy := hB7 _ _ (Nat.le_refl _) (below_alloc (Below.refl w6.heap.size w6) _); have HB7 := Aside0.mk (below_step HB6.out hy); have HD7 := Aside0.mk (below_step HD6.out hy); have u0 := M.rec_cell hA7 0 _ rfl; have t1 := M.rec_cell (M.rec_below HC4.out HD7.out) 0 _ rfl; clear hA7 hF7 hB7 hz7 hy))
        exact bodyPost_ret (v := .tuple #[.slice none 0 0, .slice none 0 0, .int .i64 16]) (by simp [results, Tryd.results25, go_sem]) rfl (by rw [HR.out]; exact ⟨_, _, rfl, Kd.R_nil _ _ _ _ _, Kd.R_nil _ _ _ _ _, HB7.out⟩)
       ·have HBF := Aside0.mk (decide_eq_false hbd)
        have x1 := decide_eq_false hbd
        go_wp2_with (first | ((with_reducible refine gate_dst (N := 77) rfl ?_); (try (refine gate_guard (by rfl) ?_; dsimp only)); refine M.wp_rec_load rfl 46 _ rfl w.heap.size 46 [.slice A0 s.ts.length c0, .slice A1 s.ts.length c1, .string s.a, .string s.b] rfl HX1.out _ Tryd.underlying46 rfl pleachref35_Back.size46 ?_) | (go_at_call 50; (with_reducible refine (pleachref35_Back.ldn s A0 A1 c0 c1 nm _ (Kd.C_below H0.out HLOW5.out) hc0 (Kd.C_below H1.out HLOW5.out) hc1 hl HTS.out).mono ?_); rw [HNN.out]; rintro e w6 ⟨B6, m6, d6, y6, z6, ok6, rfl, hb6⟩; have HB6 := Aside0.mk (below_step HLOW5.out hb6); have HD6 := Aside0.mk (below_step HB5.out hb6); clear hb6) | ((with_reducible refine gate_store (t := 24) (p := 19) (v := .tmp 80) rfl ?_); refine M.wp_rec_store rfl 24 _ _ rfl w6.heap.size 24 commit_Load.zero_ [.int .i64 nn, .slice B6 m6 d6, .string y6, .string z6] rfl rfl (M.rec_new w6 24 commit_Load.zero_) rfl commit_Load.size_ rfl ?_; intro w7 hA7 hF7 hB7 hz7; have hy := hB7 _ _ (Nat.le_refl _) (below_alloc (Below.refl w6.heap.size w6) _); have HB7 := Aside0.mk (below_step HB6.out hy); have HD7 := Aside0.mk (below_step HD6.out hy); have u0 := M.rec_cell hA7 0 _ rfl; have t1 := M.rec_cell (M.rec_below HC4.out HD7.out) 0 _ rfl; clear hA7 hF7 hB7 hz7 hy))
        go_roundg (cm.f1.length - (j + 1))
        case measure => have := hkq4.out; omega
        case rel => exact ⟨j + 1, by go_num, by omega, ⟨rfl⟩, HD7, ⟨commit_Back.any1 _ _ j hlt4 HA5.out (by rw [HNM.out]; unfold commit_Back.bad1; rw [HNN.out]; exact HBF.out)⟩⟩
      ·obtain rfl : j = cm.f1.length := by omega
       rw [List.take_length] at HA5
       have p9 : decide ((cm.f1.length : Int) < (cm.f1.length : Int)) = false := decide_eq_false (by omega)
       go_wp2
       go_roundg (st.all.length - (q + 1))
       case measure => (refine Nat.lt_of_lt_of_le ?_ (Nat.le_of_eq hkq3.out.symm); omega)
       case rel => exact ⟨q + 1, by go_num, by omega, ⟨rfl⟩, HB35, ⟨commit_Back.any1 _ _ q hlt3 HA3.out (by rw [HCM.out]; exact HA5.out)⟩⟩
    ·obtain rfl : q = st.all.length := by omega
     rw [List.take_length] at HA3
     have p9 : decide ((st.all.length : Int) < (st.all.length : Int)) = false := decide_eq_false (by omega)
     have HR := Aside0.mk (show commit_Back.res s names = (st.names, st.all, 0) from by
      unfold commit_Back.res
      simp only []
      rw [HE.out, if_neg (by rw [HBAD.out]; decide), if_neg (by rw [HA3.out]; decide)])
     go_wp2
     exact bodyPost_ret (v := .tuple #[.slice AN st.names.length cN, .slice AA st.all.length cA, .int .i64 0]) (by simp [results, Tryd.results25, go_sem]) rfl (by rw [HR.out]; exact ⟨_, _, rfl, Kd.R_below HRB.out.rn HB3.out, Kd.R_mono (Kd.R_below HRB.out.ra HB3.out) (fun _ _ => trivial), below_then HL3.out HL3.out.size HB3.out⟩)
end
def pleachplain_Texts_p.l0 : Nat → List ByteArray → List ByteArray → Int → Int → Option (Bool)
  | 0, _, _, _, _ => none
  | k + 1, x0, x1, x12, x13 => if x13 < x12 then (if 0 ≤ x13 then (if x13 < (x0.length : Int) then (if x13 < (x1.length : Int) then (if (rdOf ByteArray.empty x0 x13).toList = (rdOf ByteArray.empty x1 x13).toList then (pleachplain_Texts_p.l0 k x0 x1 x12 (wrap64 (x13 + 1))) else (some false)) else (none)) else (none)) else (none)) else (some true)
def pleachplain_Texts_p.f (k : Nat) (l0 : List ByteArray) (l1 : List ByteArray) : Option (Bool) := if (l0.length : Int) = (l1.length : Int) then (pleachplain_Texts_p.l0 k l0 l1 (l0.length : Int) 0) else (some false)
theorem pleachplain_Texts_p.mono_l : ∀ k, (∀ y0 y1 y2 y3, LeO (pleachplain_Texts_p.l0 k y0 y1 y2 y3) (pleachplain_Texts_p.l0 (k + 1) y0 y1 y2 y3))
  | 0 => fun _ _ _ _ r h => by simp [pleachplain_Texts_p.l0] at h
  | k + 1 => by
    have ih0 := pleachplain_Texts_p.mono_l k
    · intro y0 y1 y2 y3
      unfold pleachplain_Texts_p.l0
      repeat' first
      | (with_reducible exact ih0 _ _ _ _)
      | (with_reducible exact LeO.refl _)
      | (with_reducible exact LeO.none _)
      | (with_reducible refine LeO.ite ?_ ?_)
      | (with_reducible refine LeO.bind ?_ (fun _ => ?_))
      | exact ih0 _ _ _ _
      | exact LeO.none _
      | refine LeO.ite ?_ ?_
      | refine LeO.bind ?_ (fun _ => ?_)
theorem pleachplain_Texts_p.mono : ∀ a0 a1 k, LeO (pleachplain_Texts_p.f k a0 a1) (pleachplain_Texts_p.f (k + 1) a0 a1) := by
  intro a0 a1 k
  have ih0 := pleachplain_Texts_p.mono_l k
  unfold pleachplain_Texts_p.f
  repeat' first
      | (with_reducible exact ih0 _ _ _ _)
      | (with_reducible exact LeO.refl _)
      | (with_reducible exact LeO.none _)
      | (with_reducible refine LeO.ite ?_ ?_)
      | (with_reducible refine LeO.bind ?_ (fun _ => ?_))
      | exact ih0 _ _ _ _
      | exact LeO.none _
      | refine LeO.ite ?_ ?_
      | refine LeO.bind ?_ (fun _ => ?_)
set_option maxHeartbeats 8000000 in
set_option maxRecDepth 100000 in
theorem pleachplain_Texts_p.calls (k : Nat) (A0 : Option Addr) (c0 : Nat) (l0 : List ByteArray) (A1 : Option Addr) (c1 : Nat) (l1 : List ByteArray) (r : Bool) (w : World) (hr0 : Kd.C Kd.string w A0 l0.length l0) (hc0 : l0.length ≤ c0) (hr1 : Kd.C Kd.string w A1 l1.length l1) (hc1 : l1.length ≤ c1) (h : pleachplain_Texts_p.f k l0 l1 = some r) :
    Calls Tryd.prog 26 #[.slice A0 l0.length c0, .slice A1 l1.length c1] w fun e w' => e = .returned (.bool r) ∧ Drawn0 w w' := by
 have HR0 := Aside0.mk hr0
 have HC0 := Aside0.mk hc0
 clear hr0 hc0
 have HR1 := Aside0.mk hr1
 have HC1 := Aside0.mk hc1
 clear hr1 hc1
 have H : (if (l0.length : Int) = (l1.length : Int) then (pleachplain_Texts_p.l0 k l0 l1 (l0.length : Int) 0) else (some false)) = some r := h
 clear h
 by_cases c3 : (l0.length : Int) = (l1.length : Int)
 ·rw [if_pos c3] at H
  have c3b0 : ((l0.length : Int) == (l1.length : Int)) = true := beq_iff_eq.mpr c3
  have c3b1 : ((l0.length : Int) != (l1.length : Int)) = false := bne_eq_false_iff_eq.mpr c3
  have c3b2 : (l0.length == l1.length) = true := by first | simpa using c3 | (simp at c3 ⊢; omega)
  clear c3
  have H' := Aside0.mk H
  clear H
  go_enter Tryd.func26, Tryd.ntmps26
  go_wp2
  repeat (go_quiet (fail); try go_wp2)
  go_loopg [13] k (fun kq v13 w' => ∃ (x13_1 : Int), v13 = .int .i64 x13_1 ∧ Aside0 (pleachplain_Texts_p.l0 kq l0 l1 (l0.length : Int) x13_1 = some r) ∧ Aside0 (kq ≤ k) ∧ Drawn0 w w')
  case atStart => exact ⟨(0), M.eqv, H', ⟨Nat.le_refl _⟩, by repeat (first | exact Drawn0.refl _ | apply Drawn0.step)⟩
  case round =>
   clear H'
   (try clear c1); (try clear c2); (try clear p2); (try clear c3); (try clear c3b0); (try clear c3b1); (try clear c3b2)
   obtain ⟨x13_1, rfl, HA, HK1, ⟨m1, rfl⟩⟩ := hrel
   cases gk with
   | zero => exact absurd HA.out (by simp [pleachplain_Texts_p.l0])
   | succ k1 =>
    have H := HA.out
    clear HA
    simp only [pleachplain_Texts_p.l0] at H
    by_cases c4 : x13_1 < (l0.length : Int)
    ·rw [if_pos c4] at H
     have c4b0 := decide_eq_true c4
     clear c4
     by_cases c5 : 0 ≤ x13_1
     ·rw [if_pos c5] at H
      have c5b0 := decide_eq_true c5
      clear c5
      by_cases c6 : x13_1 < (l0.length : Int)
      ·rw [if_pos c6] at H
       have c6b0 := decide_eq_true c6
       clear c6
       by_cases c7 : x13_1 < (l1.length : Int)
       ·rw [if_pos c7] at H
        have c7b0 := decide_eq_true c7
        clear c7
        by_cases c8 : (rdOf ByteArray.empty l0 x13_1).toList = (rdOf ByteArray.empty l1 x13_1).toList
        ·rw [if_pos c8] at H
         have c8b0 : ((rdOf ByteArray.empty l0 x13_1).toList == (rdOf ByteArray.empty l1 x13_1).toList) = true := beq_iff_eq.mpr c8
         have c8b1 : ((rdOf ByteArray.empty l0 x13_1).toList != (rdOf ByteArray.empty l1 x13_1).toList) = false := bne_eq_false_iff_eq.mpr c8
         clear c8
         have H' := Aside0.mk H
         clear H
         have p358 : 0 ≤ (x13_1 : Int) := M.dt
         have q358 : x13_1 < (l0.length : Int) := M.dt
         obtain ⟨ad358, e358, hx358_0⟩ := Kd.at_string HR0.out x13_1 p358 q358
         cases e358
         replace p358 := eq_true p358
         replace q358 := eq_true q358
         have p359 : 0 ≤ (x13_1 : Int) := M.dt
         have q359 : x13_1 < (l1.length : Int) := M.dt
         obtain ⟨ad359, e359, hx359_0⟩ := Kd.at_string HR1.out x13_1 p359 q359
         cases e359
         replace p359 := eq_true p359
         replace q359 := eq_true q359
         go_wp2
         repeat (go_quiet (fail); try go_wp2)
         go_roundg k1
         case measure => have := HK1.out; omega
         case rel => exact ⟨(wrap64 (x13_1 + 1)), M.eqv, H', ⟨by have := HK1.out; omega⟩, by repeat (first | exact Drawn0.refl _ | apply Drawn0.step)⟩
        ·rw [if_neg c8] at H
         have c8b0 : ((rdOf ByteArray.empty l0 x13_1).toList == (rdOf ByteArray.empty l1 x13_1).toList) = false := beq_eq_false_iff_ne.mpr c8
         have c8b1 : ((rdOf ByteArray.empty l0 x13_1).toList != (rdOf ByteArray.empty l1 x13_1).toList) = true := bne_iff_ne.mpr c8
         obtain rfl := Option.some.inj H
         have p358 : 0 ≤ (x13_1 : Int) := M.dt
         have q358 : x13_1 < (l0.length : Int) := M.dt
         obtain ⟨ad358, e358, hx358_0⟩ := Kd.at_string HR0.out x13_1 p358 q358
         cases e358
         replace p358 := eq_true p358
         replace q358 := eq_true q358
         have p359 : 0 ≤ (x13_1 : Int) := M.dt
         have q359 : x13_1 < (l1.length : Int) := M.dt
         obtain ⟨ad359, e359, hx359_0⟩ := Kd.at_string HR1.out x13_1 p359 q359
         cases e359
         replace p359 := eq_true p359
         replace q359 := eq_true q359
         go_wp2
         repeat (go_quiet (fail); try go_wp2)
         go_ret
         exact ⟨by first | rfl | (simp; done) | (simp [*]; done), by repeat (first | exact Drawn0.refl _ | apply Drawn0.step)⟩
       ·exact M.nf c7 H
      ·exact M.nf c6 H
     ·exact M.nf c5 H
    ·rw [if_neg c4] at H
     have c4b0 := decide_eq_false c4
     clear c4
     obtain rfl := Option.some.inj H
     go_wp2
     repeat (go_quiet (fail); try go_wp2)
     go_ret
     exact ⟨by first | rfl | (simp; done) | (simp [*]; done), by repeat (first | exact Drawn0.refl _ | apply Drawn0.step)⟩
 ·rw [if_neg c3] at H
  have c3b0 : ((l0.length : Int) == (l1.length : Int)) = false := beq_eq_false_iff_ne.mpr c3
  have c3b1 : ((l0.length : Int) != (l1.length : Int)) = true := bne_iff_ne.mpr c3
  have c3b2 : (l0.length == l1.length) = false := by first | simpa using c3 | (simp at c3 ⊢; omega)
  obtain rfl := Option.some.inj H
  go_enter Tryd.func26, Tryd.ntmps26
  go_wp2
  repeat (go_quiet (fail); try go_wp2)
  go_ret
  exact ⟨by first | rfl | (simp; done) | (simp [*]; done), by repeat (first | exact Drawn0.refl _ | apply Drawn0.step)⟩
def pleachplain_Texts.f (l0 : List ByteArray) (l1 : List ByteArray) : Option Bool := if l0.length ≤ 9223372036854775806 then some (decide (l0 = l1)) else none
theorem pleachplain_Texts.loop (l m : List ByteArray) (hl : l.length ≤ 9223372036854775806) (hm : l.length = m.length) (d : Nat) : ∀ (i : Nat), i + d = l.length →
    pleachplain_Texts_p.l0 (d + 1) l m (l.length : Int) (i : Int) = some (decide (l.drop i = m.drop i)) := by
 induction d with
 | zero =>
  intro i hi
  rw [pleachplain_Texts_p.l0, if_neg (by omega), List.drop_of_length_le (by omega), List.drop_of_length_le (by omega)]
  congr 1
 | succ d ih =>
  intro i hi
  have hlt : i < l.length := by omega
  have hlt' : i < m.length := by omega
  have hrd : rdOf ByteArray.empty l (i : Int) = l[i] := by simp [rdOf, List.getD, hlt]
  have hrd' : rdOf ByteArray.empty m (i : Int) = m[i] := by simp [rdOf, List.getD, hlt']
  rw [pleachplain_Texts_p.l0, if_pos (by omega), if_pos (by omega), if_pos (by omega), if_pos (by omega), hrd, hrd', M.wrap64_id (by omega) (by omega), show (i : Int) + 1 = ((i + 1 : Nat) : Int) from by omega, ih (i + 1) (by omega), List.drop_eq_getElem_cons hlt, List.drop_eq_getElem_cons hlt', M.toList_bs, M.toList_bs]
  by_cases h : l[i] = m[i]
  ·rw [if_pos (by rw [h])]
   congr 1
   apply decide_eq_decide.2
   rw [h]
   exact ⟨fun z => by rw [z], fun z => (List.cons.inj z).2⟩
  ·rw [if_neg (fun z => h (M.bs_inj z))]
   congr 1
   exact (decide_eq_false (fun z => h (List.cons.inj z).1)).symm
theorem pleachplain_Texts.ev (l m : List ByteArray) (r : Bool) (h : pleachplain_Texts.f l m = some r) : ∃ k, pleachplain_Texts_p.f k l m = some r := by
 unfold pleachplain_Texts.f at h
 split at h
 case isFalse => cases h
 case isTrue hh =>
  refine ⟨l.length + 1, ?_⟩
  rw [← h]
  unfold pleachplain_Texts_p.f
  by_cases hm : l.length = m.length
  ·have := pleachplain_Texts.loop l m hh hm l.length 0 (by omega)
   rw [List.drop_zero, List.drop_zero] at this
   rw [if_pos (by omega)]
   exact this
  ·rw [if_neg (by omega)]
   congr 1
   exact (decide_eq_false (fun z => hm (by rw [z]))).symm
theorem pleachplain_Texts.calls (A0 : Option Addr) (c0 : Nat) (l0 : List ByteArray) (A1 : Option Addr) (c1 : Nat) (l1 : List ByteArray) (r : Bool) (w : World) (hr0 : Kd.C Kd.string w A0 l0.length l0) (hc0 : l0.length ≤ c0) (hr1 : Kd.C Kd.string w A1 l1.length l1) (hc1 : l1.length ≤ c1) (h : pleachplain_Texts.f l0 l1 = some r) :
    Calls Tryd.prog 26 #[.slice A0 l0.length c0, .slice A1 l1.length c1] w fun e w' => e = .returned (.bool r) ∧ Drawn0 w w' := by
 obtain ⟨k, hk⟩ := pleachplain_Texts.ev _ _ _ h
 exact pleachplain_Texts_p.calls (k := k) (w := w) (h := hk) (hr0 := hr0) (hc0 := hc0) (hr1 := hr1) (hc1 := hc1)
def pleachlaw35_CommitBack.f (l0 l1 : List ByteArray) : Option Bool := some true
theorem pleachlaw35_CommitBack.walkInv (s : M.SS) : ∀ (f i : Nat) (st : M.BS S24), M.BS.Inv (commit_visit.ld s) (s.ts.map M.shaSum) st → M.BS.Inv (commit_visit.ld s) (s.ts.map M.shaSum) (M.BS.walk (commit_visit.ld s) (fun c => c.f1) f i st)
  | 0, _, _, h => h
  | f + 1, i, st, h => by
    rw [M.BS.walk]
    split
    · exact pleachlaw35_CommitBack.walkInv s f (i + 1) _ (M.BS.Inv.fold (commit_visit.ld s) (fun n c h => (commit_Back.ld_in s n c h).1) _ h)
    · exact h
theorem pleachlaw35_CommitBack.few_ (s : M.SS) (l : List ByteArray) {nl : List ByteArray} {al : List S24} {er : Int} (h : commit_Back.res s l = (nl, al, er)) (hl : s.ts.length ≤ 1000000000) : nl.length ≤ 1000000000 ∧ al.length ≤ 1000000000 := by
 have hi : M.BS.Inv (commit_visit.ld s) (s.ts.map M.shaSum) (commit_Back.st s l) := pleachlaw35_CommitBack.walkInv s _ _ _ (commit_Back.inv s l)
 have hf := commit_Back.few s hi
 have hn := hi.len
 unfold commit_Back.res at h
 simp only [] at h
 split at h
 ·injection h with h1 h; injection h with h2 _; subst h1; subst h2; exact ⟨Nat.zero_le _, Nat.zero_le _⟩
 ·split at h
  ·injection h with h1 h; injection h with h2 _; subst h1; subst h2; exact ⟨Nat.zero_le _, Nat.zero_le _⟩
  ·injection h with h1 h; injection h with h2 _; subst h1; subst h2; exact ⟨by omega, by omega⟩
theorem pleachlaw35_CommitBack.pl_ (s : M.SS) (l : List ByteArray) {nl : List ByteArray} {al : List S24} {er : Int} (h : commit_Back.res s l = (nl, al, er)) {c : S24} (hc : c ∈ al) : c.f1.length ≤ 9223372036854775806 := by
 have hi : M.BS.Inv (commit_visit.ld s) (s.ts.map M.shaSum) (commit_Back.st s l) := pleachlaw35_CommitBack.walkInv s _ _ _ (commit_Back.inv s l)
 unfold commit_Back.res at h
 simp only [] at h
 split at h
 ·injection h with h1 h; injection h with h2 _; subst h2; exact absurd hc List.not_mem_nil
 ·split at h
  ·injection h with h1 h; injection h with h2 _; subst h2; exact absurd hc List.not_mem_nil
  ·injection h with h1 h; injection h with h2 _
   subst h2
   obtain ⟨i, hi2, rfl⟩ := List.getElem_of_mem hc
   have h3 := hi.says i (by rw [hi.len]; exact hi2)
   rw [List.getElem?_eq_getElem hi2] at h3
   unfold commit_visit.ld at h3
   split at h3
   ·rename_i hg
    have h4 := Option.some.inj h3
    have h5 := hg.2.2.2.2.1
    rw [← h4]
    exact Nat.le_trans h5 (by decide)
   ·cases h3
theorem pleachlaw35_CommitBack.b1 {base g : Nat} {F : Nat → Prop} {s : M.SS} {A : Option Addr} {c : Nat} {names : List ByteArray} {w : World} {nl : List ByteArray} {al : List S24} {er : Int} (hS : M.Sh Tryd.prog base w g F s) (hts : ∀ t ∈ s.ts, t.size ≤ 1000000000000) (hl : s.ts.length ≤ 1000000000) (hn : Kd.C Kd.string w A names.length names) (hz : ∀ n ∈ names, n.size ≤ 1000000000000) (h : commit_Back.res s names = (nl, al, er)) :
    Calls Tryd.prog 24 #[.pointer (some ⟨g, 0, none⟩), .slice A names.length c] w fun e w' => ∃ X x Y y, e = .returned (.tuple #[.slice X nl.length x, .slice Y al.length y, .int .i64 er]) ∧ Kd.R Kd.string 9 w' w.heap.size (fun _ => True) (.slice X nl.length x) nl ∧ Kd.R k24 24 w' w.heap.size (fun _ => True) (.slice Y al.length y) al ∧ Below w.heap.size w w' := by
 have := commit_Back.any base g F s A c names w hS hts hl hn hz
 rw [h] at this
 refine this.mono ?_
 rintro e w' ⟨v1, v2, rfl, h1, h2, hb⟩
 obtain ⟨X, x, rfl⟩ := Kd.R_slice h1
 obtain ⟨Y, y, rfl⟩ := Kd.R_slice h2
 exact ⟨X, x, Y, y, rfl, h1, h2, hb⟩
theorem pleachlaw35_CommitBack.b2 {base g : Nat} {F : Nat → Prop} {s q : M.SS} {E0 E1 A : Option Addr} {d0 d1 c : Nat} {names : List ByteArray} {w : World} {nl : List ByteArray} {al : List S24} {er : Int} (hS : M.Two Tryd.prog base w g F s q E0 E1 d0 d1) (hl : q.ts.length ≤ 1000000000) (hts : ∀ t ∈ q.ts, t.size ≤ 1000000000000) (hn : Kd.C Kd.string w A names.length names) (h : commit_Back.res q names = (nl, al, er)) :
    Calls Tryd.prog 25 #[.agg #[.slice E0 q.ts.length d0, .slice E1 q.ts.length d1, .string q.a, .string q.b], .slice A names.length c] w fun e w' => ∃ X x Y y, e = .returned (.tuple #[.slice X nl.length x, .slice Y al.length y, .int .i64 er]) ∧ Kd.R Kd.string 9 w' w.heap.size (fun _ => True) (.slice X nl.length x) nl ∧ Kd.R k24 24 w' w.heap.size (fun _ => True) (.slice Y al.length y) al ∧ Below w.heap.size w w' := by
 have := pleachref35_Back.any q E0 E1 d0 d1 A c names w hS.r0 hS.h0 hS.o1.now hS.h1 hl hts hn
 rw [h] at this
 refine this.mono ?_
 rintro e w' ⟨v1, v2, rfl, h1, h2, hb⟩
 obtain ⟨X, x, rfl⟩ := Kd.R_slice h1
 obtain ⟨Y, y, rfl⟩ := Kd.R_slice h2
 exact ⟨X, x, Y, y, rfl, h1, h2, hb⟩
set_option maxHeartbeats 8000000 in
set_option maxRecDepth 100000 in
theorem pleachlaw35_CommitBack.out0 (A0 : Option Addr) (c0 : Nat) (l0 : List ByteArray) (A1 : Option Addr) (c1 : Nat) (l1 : List ByteArray) (w : World) (hr0 : Kd.C Kd.string w A0 l0.length l0) (hc0 : l0.length ≤ c0) (hr1 : Kd.C Kd.string w A1 l1.length l1) (hc1 : l1.length ≤ c1) (hT : M.stab w)  (g0 : 30 < l0.length) :
    Calls Tryd.prog 5 #[.slice A0 l0.length c0, .slice A1 l1.length c1] w fun e w' => e = .returned (.bool true) ∧ Below w.heap.size w w' := by
 have HT := Aside0.mk hT
 have HR0 := Aside0.mk hr0
 have HR1 := Aside0.mk hr1
 have hlt := Aside0.mk (M.stab_lt hT)
 have d0 : decide ((30 : Int) < (l0.length : Int)) = true := decide_eq_true (by omega)
 clear hr0 hr1 hT
 go_enter Tryd.func5, Tryd.ntmps5
 go_wp2_with (first | (go_at_call 8; (with_reducible refine (pleachlaw35_awake.walk _ HT.out).mono ?_); rintro e w9 ⟨rfl, hb9⟩; have HB9 := Aside0.mk hb9; clear hb9))
 go_ret
 exact ⟨rfl, HB9.out⟩
set_option maxHeartbeats 8000000 in
set_option maxRecDepth 100000 in
theorem pleachlaw35_CommitBack.out1 (A0 : Option Addr) (c0 : Nat) (l0 : List ByteArray) (A1 : Option Addr) (c1 : Nat) (l1 : List ByteArray) (w : World) (hr0 : Kd.C Kd.string w A0 l0.length l0) (hc0 : l0.length ≤ c0) (hr1 : Kd.C Kd.string w A1 l1.length l1) (hc1 : l1.length ≤ c1) (hT : M.stab w) (g0 : l0.length ≤ 30) (g1 : 5000 < M.bytesN 0 l0) :
    Calls Tryd.prog 5 #[.slice A0 l0.length c0, .slice A1 l1.length c1] w fun e w' => e = .returned (.bool true) ∧ Below w.heap.size w w' := by
 have HT := Aside0.mk hT
 have HR0 := Aside0.mk hr0
 have HR1 := Aside0.mk hr1
 have hlt := Aside0.mk (M.stab_lt hT)
 have HF0 : Aside0 (pleachplain_Bytes.f l0 = some ((M.bytesN 0 l0 : Nat) : Int)) := ⟨if_pos (by omega)⟩
 generalize M.bytesN 0 l0 = n0 at g1 HF0
 have d0 : decide ((30 : Int) < (l0.length : Int)) = false := decide_eq_false (by omega)
 have d1 : decide ((5000 : Int) < (n0 : Int)) = true := decide_eq_true (by omega)
 clear hr0 hr1 hT
 go_enter Tryd.func5, Tryd.ntmps5
 go_wp2_with (first | (go_at_call 21; (with_reducible refine (pleachplain_Bytes.calls A0 c0 l0 (n0 : Int) _ HR0.out hc0 HF0.out).mono ?_); rintro e w1 ⟨rfl, hb1⟩; have HB1 := Aside0.mk hb1; have HT1 := Aside0.mk (M.stab_below HT.out hb1 hlt.out); have HR11 := Aside0.mk (Kd.C_below HR1.out hb1); clear hb1) | (go_at_call 8; (with_reducible refine (pleachlaw35_awake.walk _ HT1.out).mono ?_); rintro e w9 ⟨rfl, hb9⟩; have HB9 := Aside0.mk (below_step HB1.out hb9); clear hb9))
 go_ret
 exact ⟨rfl, HB9.out⟩
set_option maxHeartbeats 8000000 in
set_option maxRecDepth 100000 in
theorem pleachlaw35_CommitBack.out2 (A0 : Option Addr) (c0 : Nat) (l0 : List ByteArray) (A1 : Option Addr) (c1 : Nat) (l1 : List ByteArray) (w : World) (hr0 : Kd.C Kd.string w A0 l0.length l0) (hc0 : l0.length ≤ c0) (hr1 : Kd.C Kd.string w A1 l1.length l1) (hc1 : l1.length ≤ c1) (hT : M.stab w) (g0 : l0.length ≤ 30) (g1 : M.bytesN 0 l0 ≤ 5000) (g2 : 5 < l1.length) :
    Calls Tryd.prog 5 #[.slice A0 l0.length c0, .slice A1 l1.length c1] w fun e w' => e = .returned (.bool true) ∧ Below w.heap.size w w' := by
 have HT := Aside0.mk hT
 have HR0 := Aside0.mk hr0
 have HR1 := Aside0.mk hr1
 have hlt := Aside0.mk (M.stab_lt hT)
 have HF0 : Aside0 (pleachplain_Bytes.f l0 = some ((M.bytesN 0 l0 : Nat) : Int)) := ⟨if_pos (by omega)⟩
 generalize M.bytesN 0 l0 = n0 at g1 HF0
 have d0 : decide ((30 : Int) < (l0.length : Int)) = false := decide_eq_false (by omega)
 have d1 : decide ((5000 : Int) < (n0 : Int)) = false := decide_eq_false (by omega)
 have d2 : decide ((5 : Int) < (l1.length : Int)) = true := decide_eq_true (by omega)
 clear hr0 hr1 hT
 go_enter Tryd.func5, Tryd.ntmps5
 go_wp2_with (first | (go_at_call 21; (with_reducible refine (pleachplain_Bytes.calls A0 c0 l0 (n0 : Int) _ HR0.out hc0 HF0.out).mono ?_); rintro e w1 ⟨rfl, hb1⟩; have HB1 := Aside0.mk hb1; have HT1 := Aside0.mk (M.stab_below HT.out hb1 hlt.out); have HR11 := Aside0.mk (Kd.C_below HR1.out hb1); clear hb1) | (go_at_call 8; (with_reducible refine (pleachlaw35_awake.walk _ HT1.out).mono ?_); rintro e w9 ⟨rfl, hb9⟩; have HB9 := Aside0.mk (below_step HB1.out hb9); clear hb9))
 go_ret
 exact ⟨rfl, HB9.out⟩
set_option maxHeartbeats 8000000 in
set_option maxRecDepth 100000 in
theorem pleachlaw35_CommitBack.out3 (A0 : Option Addr) (c0 : Nat) (l0 : List ByteArray) (A1 : Option Addr) (c1 : Nat) (l1 : List ByteArray) (w : World) (hr0 : Kd.C Kd.string w A0 l0.length l0) (hc0 : l0.length ≤ c0) (hr1 : Kd.C Kd.string w A1 l1.length l1) (hc1 : l1.length ≤ c1) (hT : M.stab w) (g0 : l0.length ≤ 30) (g1 : M.bytesN 0 l0 ≤ 5000) (g2 : l1.length ≤ 5) (g3 : 500 < M.bytesN 0 l1) :
    Calls Tryd.prog 5 #[.slice A0 l0.length c0, .slice A1 l1.length c1] w fun e w' => e = .returned (.bool true) ∧ Below w.heap.size w w' := by
 have HT := Aside0.mk hT
 have HR0 := Aside0.mk hr0
 have HR1 := Aside0.mk hr1
 have hlt := Aside0.mk (M.stab_lt hT)
 have HF0 : Aside0 (pleachplain_Bytes.f l0 = some ((M.bytesN 0 l0 : Nat) : Int)) := ⟨if_pos (by omega)⟩
 have HF1 : Aside0 (pleachplain_Bytes.f l1 = some ((M.bytesN 0 l1 : Nat) : Int)) := ⟨if_pos (by omega)⟩
 generalize M.bytesN 0 l0 = n0 at g1 HF0
 generalize M.bytesN 0 l1 = n1 at g3 HF1
 have d0 : decide ((30 : Int) < (l0.length : Int)) = false := decide_eq_false (by omega)
 have d1 : decide ((5000 : Int) < (n0 : Int)) = false := decide_eq_false (by omega)
 have d2 : decide ((5 : Int) < (l1.length : Int)) = false := decide_eq_false (by omega)
 have d3 : decide ((500 : Int) < (n1 : Int)) = true := decide_eq_true (by omega)
 clear hr0 hr1 hT
 go_enter Tryd.func5, Tryd.ntmps5
 go_wp2_with (first | (go_at_call 21; (with_reducible refine (pleachplain_Bytes.calls A0 c0 l0 (n0 : Int) _ HR0.out hc0 HF0.out).mono ?_); rintro e w1 ⟨rfl, hb1⟩; have HB1 := Aside0.mk hb1; have HT1 := Aside0.mk (M.stab_below HT.out hb1 hlt.out); have HR11 := Aside0.mk (Kd.C_below HR1.out hb1); clear hb1) | (go_at_call 21; (with_reducible refine (pleachplain_Bytes.calls A1 c1 l1 (n1 : Int) _ HR11.out hc1 HF1.out).mono ?_); rintro e w2 ⟨rfl, hb2⟩; have HB2 := Aside0.mk (below_step HB1.out hb2); have HT2 := Aside0.mk (M.stab_below HT.out HB2.out hlt.out); clear hb2) | (go_at_call 8; (with_reducible refine (pleachlaw35_awake.walk _ HT2.out).mono ?_); rintro e w9 ⟨rfl, hb9⟩; have HB9 := Aside0.mk (below_step HB2.out hb9); clear hb9))
 go_ret
 exact ⟨rfl, HB9.out⟩
theorem pleachlaw35_CommitBack.sp {W : World} {base g : Nat} {F : Nat → Prop} {s s1 q : M.SS} {A0 A1 : Option Addr} {c0 c1 : Nat} {t nm : ByteArray} {er : Int} (h : M.Two Tryd.prog base W g F s q A0 A1 c0 c1) (hT : M.stab W) (hts : s.ts.length ≤ 1000000) (hz : t.size ≤ 1000000) (hp : s.put t = (nm, er, s1)) :
    Calls Tryd.prog 23 #[.pointer (some ⟨g, 0, none⟩), .string t] W fun e w' => e = .returned (.tuple #[.string nm, .int .i64 er]) ∧ ∃ F1, M.Two Tryd.prog base w' g F1 s1 q A0 A1 c0 c1 ∧ (∀ k, F1 k → F k ∨ W.heap.size ≤ k) ∧ Kept W w' F ∧ Below base W w' := by
 have := shelf_Shelf_Put.any base g F s t W h.sh hT (by omega) (by omega)
 rw [hp] at this
 refine this.mono ?_
 rintro e w' ⟨rfl, hs⟩
 exact ⟨rfl, h.shelf hs⟩
theorem pleachlaw35_CommitBack.mem_ (l : List ByteArray) : ∀ x ∈ (pleachref16_Of.s l).ts, x ∈ l := by
 have key : ∀ (l : List ByteArray) (q : M.SS), ∀ x ∈ (l.foldl (fun q t => (q.put t).2.2) q).ts, x ∈ q.ts ∨ x ∈ l := by
  intro l
  induction l with
  | nil => intro q x hx; exact .inl hx
  | cons t l ih =>
   intro q x hx
   rw [List.foldl_cons] at hx
   rcases ih _ x hx with h | h
   ·exact (M.SS.put_mem q t x h).imp id (fun e => by rw [e]; exact List.mem_cons_self)
   ·exact .inr (List.mem_cons_of_mem _ h)
 intro x hx
 exact (key l M.SS.none_ x hx).resolve_left (fun h => absurd h List.not_mem_nil)
theorem pleachlaw35_CommitBack.two {base B g : Nat} {W w4 : World} {F : Nat → Prop} {q : M.SS} {E0 E1 : Option Addr} {d0 d1 : Nat} (hs : M.Sh Tryd.prog base W g F M.SS.none_) (hb : Below W.heap.size W w4) (h0 : Kd.R Kd.string 9 w4 W.heap.size (fun _ => True) (.slice E0 q.ts.length d0) q.ts) (h1 : Kd.R Kd.string 9 w4 W.heap.size (fun _ => True) (.slice E1 q.ts.length d1) (q.ts.map M.shaSum)) :
    M.Two Tryd.prog base w4 g F M.SS.none_ q E0 E1 d0 d1 := by
 refine ⟨hs.below hb, M.Off.of_R h0 hs.lt, ?_, (Kd.R_reads' h0).2.1, ?_⟩
 ·have := M.Off.of_R h1 hs.lt
  rwa [List.length_map] at this
 ·exact (Kd.R_reads' h1).2.1
theorem pleachlaw35_CommitBack.same (c : S24) (hl : c.f1.length ≤ 9223372036854775806) : pleachref35_Same.f c.f0 c.f1 c.f2 c.f3 c.f0 c.f1 c.f2 c.f3 = some true := by
 unfold pleachref35_Same.f
 rw [if_pos hl]
 simp
theorem pleachlaw35_CommitBack.eqt (l : List ByteArray) (X Y : Option Addr) (x y : Nat) (W : World) {b1 b2 : Nat} (h1 : Kd.R Kd.string 9 W b1 (fun _ => True) (.slice X l.length x) l) (h2 : Kd.R Kd.string 9 W b2 (fun _ => True) (.slice Y l.length y) l) (hl : l.length ≤ 1000000000) :
    Calls Tryd.prog 26 #[.slice X l.length x, .slice Y l.length y] W fun e w' => e = .returned (.bool true) ∧ Below W.heap.size W w' := by
 refine (pleachplain_Texts.calls X x l Y y l true W (Kd.R_reads' h1).2.2 (Kd.R_reads' h1).2.1 (Kd.R_reads' h2).2.2 (Kd.R_reads' h2).2.1 (by unfold pleachplain_Texts.f; rw [if_pos (by omega)]; simp)).mono ?_
 rintro e w' ⟨rfl, hd⟩
 exact ⟨rfl, hd.below⟩
theorem pleachlaw35_CommitBack.at_ {W : World} {b q : Nat} {X : Option Addr} {x : Nat} {al : List S24} (h : Kd.R k24 24 W b (fun _ => True) (.slice X al.length x) al) (hq : q < al.length) : ∃ ad B d, X = some ad ∧ W.cell? (ad.add (q * 4)) = some (.int .i64 (al[q]).f0) ∧ W.cell? ⟨(ad.add (q * 4)).block, (ad.add (q * 4)).off + 1, none⟩ = some (.slice B (al[q]).f1.length d) ∧ W.cell? ⟨(ad.add (q * 4)).block, (ad.add (q * 4)).off + 2, none⟩ = some (.string (al[q]).f2) ∧ W.cell? ⟨(ad.add (q * 4)).block, (ad.add (q * 4)).off + 3, none⟩ = some (.string (al[q]).f3) ∧ (al[q]).f1.length ≤ d ∧ Kd.C Kd.string W B (al[q]).f1.length (al[q]).f1 := by
 obtain ⟨ad, B, d, he, e0, e1, e2, e3, hl, hC⟩ := at_T24 (Kd.R_reads' h).2.2 (q : Int) (by omega) (by omega)
 have hrd : rd_T24 al (q : Int) = al[q] := by simp [rd_T24, List.getD, hq]
 rw [hrd, Int.toNat_natCast] at e0 e1 e2 e3
 rw [hrd] at hl hC
 exact ⟨ad, B, d, he, e0, e1, e2, e3, hl, hC⟩
def pleachlaw35_CommitBack.T18 : Bool × List (List Nat × List Nat) := (true, [([], []), ([], []), ([0, 1], [0, 1]), ([2], [2]), ([], []), ([], []), ([4, 5], [4, 5]), ([6], [6]), ([3, 7], [3, 7]), ([8], [8])])
def pleachlaw35_CommitBack.B18 : List Nat := [0, 0, 3, 7, 0, 0, 48, 112, 255, 511]
theorem pleachlaw35_CommitBack.tab18 : rtab .any (opsOf Tryd.f5 18) = pleachlaw35_CommitBack.T18 := by kernel_rfl
theorem pleachlaw35_CommitBack.bits18 : waitsOk pleachlaw35_CommitBack.T18.2 pleachlaw35_CommitBack.B18 = true := by kernel_rfl
set_option maxHeartbeats 8000000 in
set_option maxRecDepth 100000 in
theorem pleachlaw35_CommitBack.in_ (A0 : Option Addr) (c0 : Nat) (l0 : List ByteArray) (A1 : Option Addr) (c1 : Nat) (l1 : List ByteArray) (w : World) (hr0 : Kd.C Kd.string w A0 l0.length l0) (hc0 : l0.length ≤ c0) (hr1 : Kd.C Kd.string w A1 l1.length l1) (hc1 : l1.length ≤ c1) (hT : M.stab w) (g0 : l0.length ≤ 30) (g1 : M.bytesN 0 l0 ≤ 5000) (g2 : l1.length ≤ 5) (g3 : M.bytesN 0 l1 ≤ 500) :
    Calls Tryd.prog 5 #[.slice A0 l0.length c0, .slice A1 l1.length c1] w fun e w' => e = .returned (.bool true) ∧ Below w.heap.size w w' := by
 have HT := Aside0.mk hT
 have HR0 := Aside0.mk hr0
 have HR1 := Aside0.mk hr1
 have hlt := Aside0.mk (M.stab_lt hT)
 have HF0 : Aside0 (pleachplain_Bytes.f l0 = some ((M.bytesN 0 l0 : Nat) : Int)) := ⟨if_pos (by omega)⟩
 have HF1 : Aside0 (pleachplain_Bytes.f l1 = some ((M.bytesN 0 l1 : Nat) : Int)) := ⟨if_pos (by omega)⟩
 have HZ0 := Aside0.mk (fun x hx => Nat.le_trans (M.bytesN_each l0 0 (by omega) x hx) g1)
 have HZ1 := Aside0.mk (fun x hx => Nat.le_trans (M.bytesN_each l1 0 (by omega) x hx) g3)
 generalize M.bytesN 0 l0 = n0 at g1 HF0
 generalize M.bytesN 0 l1 = n1 at g3 HF1
 have d0 : decide ((30 : Int) < (l0.length : Int)) = false := decide_eq_false (by omega)
 have d1 : decide ((5000 : Int) < (n0 : Int)) = false := decide_eq_false (by omega)
 have d2 : decide ((5 : Int) < (l1.length : Int)) = false := decide_eq_false (by omega)
 have d3 : decide ((500 : Int) < (n1 : Int)) = false := decide_eq_false (by omega)
 clear hr0 hr1 hT
 go_enter Tryd.func5, Tryd.ntmps5
 go_wp2_with (first | (go_at_call 21; (with_reducible refine (pleachplain_Bytes.calls A0 c0 l0 (n0 : Int) _ HR0.out hc0 HF0.out).mono ?_); rintro e w1 ⟨rfl, hb1⟩; have HB1 := Aside0.mk hb1; have HT1 := Aside0.mk (M.stab_below HT.out hb1 hlt.out); have HR11 := Aside0.mk (Kd.C_below HR1.out hb1); clear hb1) | (go_at_call 21; (with_reducible refine (pleachplain_Bytes.calls A1 c1 l1 (n1 : Int) _ HR11.out hc1 HF1.out).mono ?_); rintro e w2 ⟨rfl, hb2⟩; have HB2 := Aside0.mk (below_step HB1.out hb2); have HT2 := Aside0.mk (M.stab_below HT.out HB2.out hlt.out); clear hb2) | (go_at_call 15; (with_reducible refine (shelf_New.any _).mono ?_); rintro e w3 ⟨g, F, rfl, hs3, hb3⟩; have HS3 := Aside0.mk (M.Sh.lower hs3 HB2.out.size); have HB3 := Aside0.mk (below_step HB2.out hb3); have HR03 := Aside0.mk (Kd.C_below HR0.out HB3.out); clear hs3 hb3) | (go_at_call 22; (with_reducible refine (pleachref16_Of.any A0 c0 l0 _ HR03.out (by omega)).mono ?_); rintro e w4 ⟨E0, E1, d0_, d1_, rfl, hv0, hv1, hb4⟩; have H24 := Aside0.mk (pleachlaw35_CommitBack.two (B := 0) HS3.out hb4 hv0 hv1); have HB4 := Aside0.mk (below_step HB3.out hb4); clear hv0 hv1 hb4) | ((with_reducible refine gate_store (t := 46) (p := 6) (v := .tmp 39) rfl ?_); refine M.wp_rec_store rfl 46 _ _ rfl w4.heap.size 46 [.slice none 0 0, .slice none 0 0, .string ⟨#[]⟩, .string ⟨#[]⟩] [.slice E0 (pleachref16_Of.s l0).ts.length d0_, .slice E1 (pleachref16_Of.s l0).ts.length d1_, .string (pleachref16_Of.s l0).a, .string (pleachref16_Of.s l0).b] rfl rfl (M.rec_new w4 46 [.slice none 0 0, .slice none 0 0, .string ⟨#[]⟩, .string ⟨#[]⟩]) rfl pleachref16_Put.size_ rfl ?_; intro w5 hA5 hF5 hB5 hz5; have hy := hB5 w4.heap.size w4 (Nat.le_refl _) (below_alloc (Below.refl _ _) _); have HC5 := Aside0.mk hA5; have H25 := Aside0.mk (H24.out.below hy); have HB5 := Aside0.mk (below_step HB4.out hy); clear hA5 hF5 hB5 hz5 hy))
 have HG4 := Aside0.mk (H24.out.sh.lt)
 go_loopg [42] (l0.length) (fun kq v42 wr => ∃ (k : Nat) (F : Nat → Prop) (s : M.SS), v42 = .int .i64 (k : Int) ∧ k ≤ l0.length ∧ Aside0 (kq = l0.length - k) ∧ Aside0 (s = pleachref16_Of.s (l0.take k)) ∧ Aside0 (Below w.heap.size w wr) ∧ Aside0 (M.rec_ wr w4.heap.size 46 [.slice E0 (pleachref16_Of.s l0).ts.length d0_, .slice E1 (pleachref16_Of.s l0).ts.length d1_, .string (pleachref16_Of.s l0).a, .string (pleachref16_Of.s l0).b]) ∧ Aside0 (M.Two Tryd.prog w.heap.size wr g F s (pleachref16_Of.s l0) E0 E1 d0_ d1_) ∧ Aside0 (¬ F w4.heap.size))
 case atStart => exact ⟨0, F, M.SS.none_, rfl, Nat.zero_le _, ⟨rfl⟩, ⟨rfl⟩, HB5, HC5, H25, ⟨fun q => by have := HG4.out _ q; omega⟩⟩
 case round =>
  clear HS3 HB3 HR03 H24 HB4 HC5 H25 HB5 HG4
  obtain ⟨k, F, s, rfl, hk, hkq, HQ, HB, HC, H2, HNF⟩ := hrel
  obtain ⟨W1, rfl⟩ : ∃ x, x = wr := ⟨_, rfl⟩
  have HLN := Aside0.mk (show s.ts.length ≤ 30 from by rw [HQ.out]; have := pleachref16_Of.len (l0.take k); rw [List.length_take] at this; omega)
  by_cases hlt2 : k < l0.length
  ·obtain ⟨t, ht⟩ : ∃ t, l0[k] = t := ⟨_, rfl⟩
   have htz : t.size ≤ 1000000 := Nat.le_trans (ht ▸ HZ0.out _ (List.getElem_mem hlt2)) (by decide)
   obtain ⟨⟨nm, er, s1⟩, hp⟩ : ∃ y, s.put t = y := ⟨_, rfl⟩
   have HP := Aside0.mk hp
   have HQ1 := Aside0.mk (show s1 = pleachref16_Of.s (l0.take (k + 1)) from by rw [pleachref16_Of.snoc l0 k hlt2, ← HQ.out, ht, hp])
   obtain ⟨ad, hAL, e0⟩ := Kd.at_string HR0.out (k : Int) (by omega) (by omega)
   rw [show rdOf ByteArray.empty l0 (k : Int) = t from by rw [← ht]; simp [rdOf, List.getD, hlt2], Int.toNat_natCast] at e0
   subst hAL
   have q0 := (HB.out.cell (World.block_lt_of_cell? w _ e0)).trans e0
   have p1 : (k : Int) < (l0.length : Int) := by omega
   have p2 : (0 : Int) ≤ (k : Int) := by omega
   have p3 := decide_eq_true p1
   have HT4 := Aside0.mk (M.stab_below HT.out HB.out hlt.out)
   have HZ5 := Aside0.mk (M.rec_lt HC.out)
   clear e0 hp ht
   by_cases h15 : er = 15
   ·subst h15
    go_wp2_with (first | (go_at_call 23; (with_reducible refine (pleachlaw35_CommitBack.sp H2.out HT4.out ?h1 htz HP.out).mono ?_); (case h1 => have := HLN.out; omega); rintro e w6 ⟨rfl, F1, h26, hf6, hk6, hb6⟩; have H26 := Aside0.mk h26; have HC6 := Aside0.mk (M.rec_kept HC.out hk6 HNF.out); have HN6 := Aside0.mk (show ¬ F1 w4.heap.size from fun q => (hf6 _ q).elim HNF.out (fun q => by have := HZ5.out; omega)); have HB6 := Aside0.mk (HB.out.trans hb6); have HT6 := Aside0.mk (M.stab_below HT.out HB6.out hlt.out); clear h26 hf6 hk6 hb6) | (go_at_call 8; (with_reducible refine (pleachlaw35_awake.walk _ HT6.out).mono ?_); rintro e w9 ⟨rfl, hb9⟩; have HB9 := Aside0.mk (below_step HB6.out hb9); clear hb9))
    go_ret
    exact ⟨rfl, HB9.out⟩
   ·have x15 : (er == 15) = false := by simp [h15]
    have x16 : decide (er = 15) = false := decide_eq_false h15
    go_wp2_with (first | (go_at_call 23; (with_reducible refine (pleachlaw35_CommitBack.sp H2.out HT4.out ?h1 htz HP.out).mono ?_); (case h1 => have := HLN.out; omega); rintro e w6 ⟨rfl, F1, h26, hf6, hk6, hb6⟩; have H26 := Aside0.mk h26; have HC6 := Aside0.mk (M.rec_kept HC.out hk6 HNF.out); have HN6 := Aside0.mk (show ¬ F1 w4.heap.size from fun q => (hf6 _ q).elim HNF.out (fun q => by have := HZ5.out; omega)); have HB6 := Aside0.mk (HB.out.trans hb6); have HT6 := Aside0.mk (M.stab_below HT.out HB6.out hlt.out); clear h26 hf6 hk6 hb6))
    go_roundg (l0.length - (k + 1))
    case measure => have := hkq.out; omega
    case rel => exact ⟨k + 1, F1, s1, by go_num, by omega, ⟨rfl⟩, HQ1, HB6, HC6, H26, HN6⟩
  ·obtain rfl : k = l0.length := by omega
   have hq := HQ.out
   rw [List.take_length] at hq
   subst hq
   have p3 : decide ((l0.length : Int) < (l0.length : Int)) = false := decide_eq_false (by omega)
   have HTS := Aside0.mk (show ∀ t ∈ (pleachref16_Of.s l0).ts, t.size ≤ 1000000000000 from fun t ht => Nat.le_trans (HZ0.out t (pleachlaw35_CommitBack.mem_ l0 t ht)) (by decide))
   have HZN := Aside0.mk (show ∀ n ∈ l1, n.size ≤ 1000000000000 from fun t ht => Nat.le_trans (HZ1.out t ht) (by decide))
   have HL9 := Aside0.mk (show (pleachref16_Of.s l0).ts.length ≤ 1000000000 from by have := HLN.out; omega)
   have HR17 := Aside0.mk (Kd.C_below HR1.out HB.out)
   obtain ⟨⟨nl, al, er⟩, hres⟩ : ∃ y, commit_Back.res (pleachref16_Of.s l0) l1 = y := ⟨_, rfl⟩
   have HRES := Aside0.mk hres
   have hfw : nl.length ≤ 1000000000 ∧ al.length ≤ 1000000000 := pleachlaw35_CommitBack.few_ _ _ hres HL9.out
   clear hlt2 hk hkq HQ hres
   go_wp2_with (first | (go_at_call 24; (with_reducible refine (pleachlaw35_CommitBack.b1 H2.out.sh HTS.out HL9.out HR17.out HZN.out HRES.out).mono ?_); rintro e w6 ⟨X1, x1, Y1, y1, rfl, hv1, hv2, hb6⟩; have HV1 := Aside0.mk hv1; have HV2 := Aside0.mk hv2; have HB6 := Aside0.mk (below_step HB.out hb6); have HC6 := Aside0.mk (M.rec_below HC.out hb6); have H26 := Aside0.mk (H2.out.below hb6); have HR16 := Aside0.mk (Kd.C_below HR17.out hb6); clear hv1 hv2 hb6) | ((with_reducible refine gate_dst (N := 64) rfl ?_); (try (refine gate_guard (by rfl) ?_; dsimp only)); refine M.wp_rec_load rfl 46 _ rfl w4.heap.size 46 [.slice E0 (pleachref16_Of.s l0).ts.length d0_, .slice E1 (pleachref16_Of.s l0).ts.length d1_, .string (pleachref16_Of.s l0).a, .string (pleachref16_Of.s l0).b] rfl HC6.out _ Tryd.underlying46 rfl pleachref16_Put.size_ ?_) | (go_at_call 25; (with_reducible refine (pleachlaw35_CommitBack.b2 H26.out HL9.out HTS.out HR16.out HRES.out).mono ?_); rintro e w7 ⟨X2, x2, Y2, y2, rfl, hv3, hv4, hb7⟩; have HV3 := Aside0.mk hv3; have HV4 := Aside0.mk hv4; have HB7 := Aside0.mk (below_step HB6.out hb7); have HV17 := Aside0.mk (Kd.R_below HV1.out hb7); have HV27 := Aside0.mk (Kd.R_below HV2.out hb7); clear hv3 hv4 hb7) | (go_at_call 26; (with_reducible refine (pleachlaw35_CommitBack.eqt nl X1 X2 x1 x2 _ HV17.out HV3.out hfw.1).mono ?_); rintro e w8 ⟨rfl, hb8⟩; have HB8 := Aside0.mk (below_step HB7.out hb8); have HU1 := Aside0.mk (Kd.R_below HV27.out hb8); have HU2 := Aside0.mk (Kd.R_below HV4.out hb8); clear hb8))
   go_loopg [88] (al.length) (fun kq2 v88 wr2 => ∃ q : Nat, v88 = .int .i64 (q : Int) ∧ q ≤ al.length ∧ Aside0 (kq2 = al.length - q) ∧ Aside0 (Below w8.heap.size w8 wr2))
   case atStart => exact ⟨0, rfl, Nat.zero_le _, ⟨rfl⟩, ⟨Below.refl _ _⟩⟩
   case round =>
    obtain ⟨q, rfl, hq, hkq2, HB9⟩ := hrel
    obtain ⟨W2, rfl⟩ : ∃ x, x = wr := ⟨_, rfl⟩
    by_cases hlt3 : q < al.length
    ·obtain ⟨aa, P1, p1_, he1, e0, e1, e2, e3, hl1, hC1⟩ := pleachlaw35_CommitBack.at_ (Kd.R_below HU1.out HB9.out) hlt3
     obtain ⟨ab, P2, p2_, he2, f0, f1, f2, f3, hl2, hC2⟩ := pleachlaw35_CommitBack.at_ (Kd.R_below HU2.out HB9.out) hlt3
     subst he1
     subst he2
     obtain ⟨cm, hcm⟩ : ∃ x, al[q] = x := ⟨_, rfl⟩
     rw [hcm] at e0 e1 e2 e3 hl1 hC1 f0 f1 f2 f3 hl2 hC2
     have hpl : cm.f1.length ≤ 9223372036854775806 := pleachlaw35_CommitBack.pl_ _ _ HRES.out (hcm ▸ List.getElem_mem hlt3)
     have HCa := Aside0.mk (Kd.C_below hC1 (below_drew1 (Below.refl W2.heap.size W2)))
     have HCb := Aside0.mk (Kd.C_below hC2 (below_drew1 (Below.refl W2.heap.size W2)))
     have HSM := Aside0.mk (pleachlaw35_CommitBack.same cm hpl)
     have p1 : (q : Int) < (al.length : Int) := by omega
     have p2 : (0 : Int) ≤ (q : Int) := by omega
     have p3 := decide_eq_true p1
     clear hC1 hC2 hcm
     go_upto_region 18 with (fail)
     refine start_ (n := 10) (S := fun w' => w'.cell? (aa.add (q * 4)) = some (.int .i64 cm.f0) ∧ w'.cell? ⟨(aa.add (q * 4)).block, (aa.add (q * 4)).off + 1, none⟩ = some (.slice P1 cm.f1.length p1_) ∧ w'.cell? ⟨(aa.add (q * 4)).block, (aa.add (q * 4)).off + 2, none⟩ = some (.string cm.f2) ∧ w'.cell? ⟨(aa.add (q * 4)).block, (aa.add (q * 4)).off + 3, none⟩ = some (.string cm.f3) ∧ w'.cell? (ab.add (q * 4)) = some (.int .i64 cm.f0) ∧ w'.cell? ⟨(ab.add (q * 4)).block, (ab.add (q * 4)).off + 1, none⟩ = some (.slice P2 cm.f1.length p2_) ∧ w'.cell? ⟨(ab.add (q * 4)).block, (ab.add (q * 4)).off + 2, none⟩ = some (.string cm.f2) ∧ w'.cell? ⟨(ab.add (q * 4)).block, (ab.add (q * 4)).off + 3, none⟩ = some (.string cm.f3)) (ds := []) (M.tf [0, 10]) (by kernel_rfl) rfl rfl ⟨e0, e1, e2, e3, f0, f1, f2, f3⟩ (fun hHeld => ?_)
     refine with_tabW pleachlaw35_CommitBack.tab18 pleachlaw35_CommitBack.bits18 (fun HT_ HW_ => ?_)
     refine M.pu 0 91 [1, 9] HT_ ?_
     refine M.pu 1 92 [2, 8] HT_ ?_
     refine M.pu 2 93 [3, 7] HT_ ?_
     refine M.pu 4 95 [3, 1, 1, 5] HT_ ?_
     refine M.pu 5 96 [3, 1, 2, 4] HT_ ?_
     refine M.pu 6 97 [3, 1, 3, 3] HT_ ?_
     refine M.tk 3 94 [7, 3] HT_ HW_ hHeld ?_
     refine M.tk 7 98 [8, 2] HT_ HW_ hHeld ?_
     refine one_ (i := 8) (N := some 99) #[true, true, true, true, true, true, true, true, true, false] rfl rfl (one_of HT_.out (by kernel_rfl)) (by decide) (fun K hK => ?_)
     refine goes_ Tryd.func11 (by kernel_rfl) rfl #[.agg #[.int .i64 cm.f0, .slice P1 cm.f1.length p1_, .string cm.f2, .string cm.f3], .agg #[.int .i64 cm.f0, .slice P2 cm.f1.length p2_, .string cm.f2, .string cm.f3]] (by rfl) rfl rfl (by simp only [List.map_toArray, List.map_cons, List.map_nil]; rfl) ?_
     with_reducible refine (pleachref35_Same.calls cm.f0 P1 p1_ cm.f1 cm.f2 cm.f3 cm.f0 P2 p2_ cm.f1 cm.f2 cm.f3 true _ HCa.out hl1 HCb.out hl2 HSM.out).mono ?_
     rintro e wS ⟨rfl, hbS⟩
     refine ⟨_, rfl, ?_⟩
     have HBS := Aside0.mk hbS
     clear hbS
     refine hK.out _ _ ⟨M.hc HBS e0, M.hc HBS e1, M.hc HBS e2, M.hc HBS e3, M.hc HBS f0, M.hc HBS f1, M.hc HBS f2, M.hc HBS f3⟩ (fun hHeld => ?_)
     clear hK K
     refine norm_ (a' := ?_) ?_ ?_
     rotate_left
     ·show Act.put _ (some 99) _ = _
      simp only [Act.put, List.setIfInBounds_toArray, List.set_cons_zero, List.set_cons_succ, i64_w, i32_w]
      rfl
     refine M.pu 9 100 [10] HT_ ?_
     refine done_ (done_of HT_.out (by kernel_rfl)) ?_
     go_wp2
     go_roundg (al.length - (q + 1))
     case measure => have := hkq2.out; omega
     case rel => exact ⟨q + 1, by go_num, by omega, ⟨rfl⟩, ⟨below_step HB9.out (below_step (below_drew1 (Below.refl _ _)) HBS.out)⟩⟩
    ·obtain rfl : q = al.length := by omega
     have p3 : decide ((al.length : Int) < (al.length : Int)) = false := decide_eq_false (by omega)
     have HBA := Aside0.mk (below_step HB8.out HB9.out)
     have HTA := Aside0.mk (M.stab_below HT.out HBA.out hlt.out)
     go_wp2_with (go_at_call 8; (with_reducible refine (pleachlaw35_awake.walk _ HTA.out).mono ?_); rintro e w9 ⟨rfl, hb9⟩; have HBE := Aside0.mk (below_step HBA.out hb9); clear hb9)
     go_ret
     exact ⟨rfl, HBE.out⟩
theorem pleachlaw35_CommitBack.calls (A0 : Option Addr) (c0 : Nat) (l0 : List ByteArray) (A1 : Option Addr) (c1 : Nat) (l1 : List ByteArray) (r : Bool) (w : World) (hr0 : Kd.C Kd.string w A0 l0.length l0) (hc0 : l0.length ≤ c0) (hr1 : Kd.C Kd.string w A1 l1.length l1) (hc1 : l1.length ≤ c1) (hT : M.stab w) (h : pleachlaw35_CommitBack.f l0 l1 = some r) :
    Calls Tryd.prog 5 #[.slice A0 l0.length c0, .slice A1 l1.length c1] w fun e w' => e = .returned (.bool r) ∧ Below w.heap.size w w' := by
 obtain rfl : true = r := Option.some.inj h
 by_cases g0 : 30 < l0.length
 ·exact pleachlaw35_CommitBack.out0 A0 c0 l0 A1 c1 l1 w hr0 hc0 hr1 hc1 hT g0
 by_cases g1 : 5000 < M.bytesN 0 l0
 ·exact pleachlaw35_CommitBack.out1 A0 c0 l0 A1 c1 l1 w hr0 hc0 hr1 hc1 hT (by omega) g1
 by_cases g2 : 5 < l1.length
 ·exact pleachlaw35_CommitBack.out2 A0 c0 l0 A1 c1 l1 w hr0 hc0 hr1 hc1 hT (by omega) (by omega) g2
 by_cases g3 : 500 < M.bytesN 0 l1
 ·exact pleachlaw35_CommitBack.out3 A0 c0 l0 A1 c1 l1 w hr0 hc0 hr1 hc1 hT (by omega) (by omega) (by omega) g3
 exact pleachlaw35_CommitBack.in_ A0 c0 l0 A1 c1 l1 w hr0 hc0 hr1 hc1 hT (by omega) (by omega) (by omega) (by omega)
def pleachlaw35_CommitBack.Pure : Prop := ∀ (l0 : List ByteArray) (l1 : List ByteArray), ((∀ y ∈ l0, y.size ≤ 9223372036854775807) ∧ l0.length ≤ 9223372036854775807) → ((∀ y ∈ l1, y.size ≤ 9223372036854775807) ∧ l1.length ≤ 9223372036854775807) → pleachlaw35_CommitBack.f l0 l1 = some true
end Go.Proofs.YtikdbklmhjlfoaaDoor.ECommitBack
