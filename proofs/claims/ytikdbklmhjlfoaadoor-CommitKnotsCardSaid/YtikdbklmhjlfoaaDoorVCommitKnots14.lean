-- Laid by this session's own program (wip/tools/fold.py): this session's texts, cut to what the claim names and put together; Lean checks it.
import Derived.Test.YtikdbklmhjlfoaaDoorVCommitKnots1
import Derived.Test.YtikdbklmhjlfoaaDoorVCommitKnots3
import Derived.Test.YtikdbklmhjlfoaaDoorVCommitKnots9
import Derived.Test.YtikdbklmhjlfoaaDoorVCommitKnots10
import Derived.Test.YtikdbklmhjlfoaaDoorVCommitKnots11
import Derived.Test.YtikdbklmhjlfoaaDoorVCommitKnots13
import Derived.Test.YtikdbklmhjlfoaaDoorXCommitKnots1
namespace Go.Proofs.YtikdbklmhjlfoaaDoor.ECommitKnots
open Go.RowKit Go.Proofs.YtikdbklmhjlfoaaDoorW.PrintWords Go.Proofs.YtikdbklmhjlfoaaDoorW.PrintLast Go.Proofs.YtikdbklmhjlfoaaDoorW.PrintMore
attribute [local go_sem] M.run_leq M.run_gtr M.run_geq max2_int min2_int max_two min_two max_three min_three max_four min_four
set_option linter.unusedVariables false
set_option linter.unusedSimpArgs false
def pleachref35_Load.f (l0_0 : List ByteArray) (l0_1 : List ByteArray) (a0_2 : ByteArray) (a0_3 : ByteArray) (a1 : ByteArray) : Option (Int × List ByteArray × ByteArray × ByteArray × Bool) := (pleachref16_Get.f l0_0 l0_1 a0_2 a0_3 a1).bind fun bt347 => (if bt347.2 = true then ((pleachref35_Take.f bt347.1).bind fun bt349 => (some (bt349.1, bt349.2.1, bt349.2.2.1, bt349.2.2.2.1, bt349.2.2.2.2))) else (some (0, ([] : List ByteArray), (⟨#[]⟩ : ByteArray), (⟨#[]⟩ : ByteArray), false)))
set_option maxHeartbeats 8000000 in
set_option maxRecDepth 100000 in
theorem pleachref35_Load.calls (A0_0 : Option Addr) (c0_0 : Nat) (l0_0 : List ByteArray) (A0_1 : Option Addr) (c0_1 : Nat) (l0_1 : List ByteArray) (a0_2 : ByteArray) (a0_3 : ByteArray) (a1 : ByteArray) (r1 : Int) (r2 : List ByteArray) (r3 : ByteArray) (r4 : ByteArray) (r5 : Bool) (w : World) (hr0_0 : Kd.C Kd.string w A0_0 l0_0.length l0_0) (hc0_0 : l0_0.length ≤ c0_0) (hr0_1 : Kd.C Kd.string w A0_1 l0_1.length l0_1) (hc0_1 : l0_1.length ≤ c0_1) (h : pleachref35_Load.f l0_0 l0_1 a0_2 a0_3 a1 = some (r1, r2, r3, r4, r5)) :
    Calls Tryd.prog 50 #[.agg #[.slice A0_0 l0_0.length c0_0, .slice A0_1 l0_1.length c0_1, .string a0_2, .string a0_3], .string a1] w fun e w' => ∃ v1_ : Value, e = .returned (.tuple #[.agg #[.int .i64 r1, v1_, .string r3, .string r4], .bool r5]) ∧ Kd.R Kd.string 9 w' w.heap.size (fun _ => True) v1_ r2 ∧ Below w.heap.size w w' := by
 have hu46 := Tryd.underlying46
 have hu24 := Tryd.underlying24
 have HR0_0 := Aside0.mk hr0_0
 have HC0_0 := Aside0.mk hc0_0
 clear hr0_0 hc0_0
 have HR0_1 := Aside0.mk hr0_1
 have HC0_1 := Aside0.mk hc0_1
 clear hr0_1 hc0_1
 have HB := Aside0.mk (Below.refl w.heap.size w)
 have H : ((pleachref16_Get.f l0_0 l0_1 a0_2 a0_3 a1).bind fun bt347 => (if bt347.2 = true then ((pleachref35_Take.f bt347.1).bind fun bt349 => (some (bt349.1, bt349.2.1, bt349.2.2.1, bt349.2.2.2.1, bt349.2.2.2.2))) else (some (0, ([] : List ByteArray), (⟨#[]⟩ : ByteArray), (⟨#[]⟩ : ByteArray), false)))) = some (r1, r2, r3, r4, r5) := h
 clear h
 replace H := Option.bind_eq_some_iff.mp H
 obtain ⟨⟨t347, t348⟩, A30, H⟩ := H
 replace H : (if t348 = true then ((pleachref35_Take.f t347).bind fun bt349 => (some (bt349.1, bt349.2.1, bt349.2.2.1, bt349.2.2.2.1, bt349.2.2.2.2))) else (some (0, ([] : List ByteArray), (⟨#[]⟩ : ByteArray), (⟨#[]⟩ : ByteArray), false))) = some (r1, r2, r3, r4, r5) := H
 have A3 := Aside0.mk A30
 clear A30
 by_cases c4 : t348 = true
 ·subst c4
  have H1 : ((pleachref35_Take.f t347).bind fun bt349 => (some (bt349.1, bt349.2.1, bt349.2.2.1, bt349.2.2.2.1, bt349.2.2.2.2))) = some (r1, r2, r3, r4, r5) := by rw [if_pos rfl] at H; exact H
  clear H
  have H := H1
  clear H1
  replace H := Option.bind_eq_some_iff.mp H
  obtain ⟨⟨t349, t350, t353, t354, t355⟩, A50, H⟩ := H
  replace H : (some (t349, t350, t353, t354, t355)) = some (r1, r2, r3, r4, r5) := H
  have A5 := Aside0.mk A50
  clear A50
  simp only [Option.some.injEq, Prod.mk.injEq] at H
  obtain ⟨rfl, rfl, rfl, rfl, rfl⟩ := H
  go_enter Tryd.func50, Tryd.ntmps50
  go_wp2_with (first | ((with_reducible refine gate_dst (N := 2) rfl ?_); refine M.bx 2 46 (#[.slice A0_0 l0_0.length c0_0, .slice A0_1 l0_1.length c0_1, .string a0_2, .string a0_3]) ?_; intro zaa hg w6 hbox hb; have zab := Aside0.mk (hbox); have zac := M.upG HB hg; have zad := M.upG HB hg; replace HB := M.upS HB hb; clear hb hbox hg) | ((with_reducible refine gate_dst (N := 4) rfl ?_); refine M.bx 4 24 (#[.int .i64 0, .slice none 0 0, .string (⟨#[]⟩ : ByteArray), .string (⟨#[]⟩ : ByteArray)]) ?_; intro zae hg w7 hbox hb; have zaf := Aside0.mk (hbox); have zag := M.upG HB hg; have zah := M.upG HB hg; replace HB := M.upS HB hb; have zai := M.bkL zab hg; have zaj := M.bkG zab hg; replace zab := M.bkB zab hb; clear hb hbox hg; have zak := zai.out; have zal := zaj.out; have zam : w7.cell? ⟨zaa, 0, none⟩ = some (.slice A0_0 l0_0.length c0_0) := (blk_cell zab.out 0).trans rfl; have zan : w7.cell? ⟨zaa, 1, none⟩ = some (.slice A0_1 l0_1.length c0_1) := (blk_cell zab.out 1).trans rfl; have zao : w7.cell? ⟨zaa, 2, none⟩ = some (.string a0_2) := (blk_cell zab.out 2).trans rfl; have zap : w7.cell? ⟨zaa, 3, none⟩ = some (.string a0_3) := (blk_cell zab.out 3).trans rfl; have zaq := blk_frozen zab.out 0; have zar := blk_frozen zab.out 1; have zas := blk_frozen zab.out 2; have zat := blk_frozen zab.out 3) | ((with_reducible refine gate_callee (f := 65) rfl ?_); refine M.goes (some 11) Tryd.func65 #[.agg #[.slice A0_0 l0_0.length c0_0, .slice A0_1 l0_1.length c0_1, .string a0_2, .string a0_3], .string a1] rfl ?_; (with_reducible refine (pleachref16_Get.calls _ _ l0_0 _ _ l0_1 a0_2 a0_3 a1 t347 true _ ?side1 ?side2 ?side3 ?side4 A3.out).mono ?_); (case side1 => exact M.cB HR0_0 HB); (case side2 => exact HC0_0.out); (case side3 => exact M.cB HR0_1 HB); (case side4 => exact HC0_1.out); rintro e w10 ⟨rfl, hb⟩; refine ⟨_, rfl, ?_⟩; replace zab := M.bkB zab hb; replace zaf := M.bkB zaf hb; replace HB := M.upS HB hb; (try clear hb)) | ((with_reducible refine gate_callee (f := 10) rfl ?_); refine M.goes (some 18) Tryd.func10 #[.string t347] rfl ?_; (with_reducible refine (pleachref35_Take.calls t347 t349 t350 t353 t354 t355 _ A5.out).mono ?_); rintro e w11 ⟨v351, rfl, ho0, hb⟩; refine ⟨_, rfl, ?_⟩; have HO352 := Aside0.mk (Kd.R_lower ho0 (below_size (M.up HB))); replace zab := M.bkB zab hb; replace zaf := M.bkB zaf hb; replace HB := M.upS HB hb; (try clear hb); (try clear ho0); have zau : w11.cell? ⟨zae, 0, none⟩ = some (.int .i64 0) := (blk_cell zaf.out 0).trans rfl; have zav : w11.cell? ⟨zae, 1, none⟩ = some (.slice none 0 0) := (blk_cell zaf.out 1).trans rfl; have zaw : w11.cell? ⟨zae, 2, none⟩ = some (.string (⟨#[]⟩ : ByteArray)) := (blk_cell zaf.out 2).trans rfl; have zax : w11.cell? ⟨zae, 3, none⟩ = some (.string (⟨#[]⟩ : ByteArray)) := (blk_cell zaf.out 3).trans rfl; have zay := blk_frozen zaf.out 0; have zaz := blk_frozen zaf.out 1; have zaA := blk_frozen zaf.out 2; have zaB := blk_frozen zaf.out 3; obtain ⟨Ao13, co13, eo13⟩ := Kd.R_slice HO352.out; subst eo13))
  refine bodyPost_ret (results_ct rfl _ _ zae 24 #[.int .i64 t349, .slice Ao13 t350.length co13, .string t353, .string t354] (0, 0) _ rfl (by refine M.fp (cs := #[.int .i64 t349, .slice Ao13 t350.length co13, .string t353, .string (⟨#[]⟩ : ByteArray)]) ?_ 3; refine M.fp (cs := #[.int .i64 t349, .slice Ao13 t350.length co13, .string (⟨#[]⟩ : ByteArray), .string (⟨#[]⟩ : ByteArray)]) ?_ 2; refine M.fp (cs := #[.int .i64 t349, .slice none 0 0, .string (⟨#[]⟩ : ByteArray), .string (⟨#[]⟩ : ByteArray)]) ?_ 1; refine M.fp (cs := #[.int .i64 0, .slice none 0 0, .string (⟨#[]⟩ : ByteArray), .string (⟨#[]⟩ : ByteArray)]) ?_ 0; exact M.bk zaf) Tryd.underlying24 rfl (by kernel_rfl)) rfl ?_
  exact ⟨_, M.eqe, by (with_reducible repeat (first | apply Kd.R_alloc | apply Kd.R_drewN | apply Kd.R_drew)); exact Kd.R_mono (Kd.R_far (p := ⟨zae, 3, none⟩) (Kd.R_far (p := ⟨zae, 2, none⟩) (Kd.R_far (p := ⟨zae, 1, none⟩) (Kd.R_far (p := ⟨zae, 0, none⟩) (Kd.R_types HO352.out zaf.out (by decide)) (fun _ hk => hk.2) (.int .i64 t349)) (fun _ hk => hk.2) (.slice Ao13 t350.length co13)) (fun _ hk => hk.2) (.string t353)) (fun _ hk => hk.2) (.string t354)) (fun _ hk => trivial), M.up HB⟩
 ·replace c4 := Bool.eq_false_iff.mpr c4
  subst c4
  have H1 : (some (0, ([] : List ByteArray), (⟨#[]⟩ : ByteArray), (⟨#[]⟩ : ByteArray), false)) = some (r1, r2, r3, r4, r5) := by rw [if_neg (show ¬ (false = true) by decide)] at H; exact H
  clear H
  have H := H1
  clear H1
  simp only [Option.some.injEq, Prod.mk.injEq] at H
  obtain ⟨rfl, rfl, rfl, rfl, rfl⟩ := H
  go_enter Tryd.func50, Tryd.ntmps50
  go_wp2_with (first | ((with_reducible refine gate_dst (N := 2) rfl ?_); refine M.bx 2 46 (#[.slice A0_0 l0_0.length c0_0, .slice A0_1 l0_1.length c0_1, .string a0_2, .string a0_3]) ?_; intro zaa hg w14 hbox hb; have zab := Aside0.mk (hbox); have zac := M.upG HB hg; have zad := M.upG HB hg; replace HB := M.upS HB hb; clear hb hbox hg) | ((with_reducible refine gate_dst (N := 4) rfl ?_); refine M.bx 4 24 (#[.int .i64 0, .slice none 0 0, .string (⟨#[]⟩ : ByteArray), .string (⟨#[]⟩ : ByteArray)]) ?_; intro zae hg w15 hbox hb; have zaf := Aside0.mk (hbox); have zag := M.upG HB hg; have zah := M.upG HB hg; replace HB := M.upS HB hb; have zai := M.bkL zab hg; have zaj := M.bkG zab hg; replace zab := M.bkB zab hb; clear hb hbox hg; have zaC := zai.out; have zaD := zaj.out; have zaE : w15.cell? ⟨zaa, 0, none⟩ = some (.slice A0_0 l0_0.length c0_0) := (blk_cell zab.out 0).trans rfl; have zaF : w15.cell? ⟨zaa, 1, none⟩ = some (.slice A0_1 l0_1.length c0_1) := (blk_cell zab.out 1).trans rfl; have zaG : w15.cell? ⟨zaa, 2, none⟩ = some (.string a0_2) := (blk_cell zab.out 2).trans rfl; have zaH : w15.cell? ⟨zaa, 3, none⟩ = some (.string a0_3) := (blk_cell zab.out 3).trans rfl; have zaI := blk_frozen zab.out 0; have zaJ := blk_frozen zab.out 1; have zaK := blk_frozen zab.out 2; have zaL := blk_frozen zab.out 3) | ((with_reducible refine gate_callee (f := 65) rfl ?_); refine M.goes (some 11) Tryd.func65 #[.agg #[.slice A0_0 l0_0.length c0_0, .slice A0_1 l0_1.length c0_1, .string a0_2, .string a0_3], .string a1] rfl ?_; (with_reducible refine (pleachref16_Get.calls _ _ l0_0 _ _ l0_1 a0_2 a0_3 a1 t347 false _ ?side1 ?side2 ?side3 ?side4 A3.out).mono ?_); (case side1 => exact M.cB HR0_0 HB); (case side2 => exact HC0_0.out); (case side3 => exact M.cB HR0_1 HB); (case side4 => exact HC0_1.out); rintro e w18 ⟨rfl, hb⟩; refine ⟨_, rfl, ?_⟩; replace zab := M.bkB zab hb; replace zaf := M.bkB zaf hb; replace HB := M.upS HB hb; (try clear hb); have zaM : w18.cell? ⟨zae, 0, none⟩ = some (.int .i64 0) := (blk_cell zaf.out 0).trans rfl; have zaN : w18.cell? ⟨zae, 1, none⟩ = some (.slice none 0 0) := (blk_cell zaf.out 1).trans rfl; have zaO : w18.cell? ⟨zae, 2, none⟩ = some (.string (⟨#[]⟩ : ByteArray)) := (blk_cell zaf.out 2).trans rfl; have zaP : w18.cell? ⟨zae, 3, none⟩ = some (.string (⟨#[]⟩ : ByteArray)) := (blk_cell zaf.out 3).trans rfl; have zaQ := blk_frozen zaf.out 0; have zaR := blk_frozen zaf.out 1; have zaS := blk_frozen zaf.out 2; have zaT := blk_frozen zaf.out 3))
  refine bodyPost_ret (results_ct rfl _ _ zae 24 #[.int .i64 0, .slice none 0 0, .string (⟨#[]⟩ : ByteArray), .string (⟨#[]⟩ : ByteArray)] (0, 0) _ rfl (by refine M.fp (cs := #[.int .i64 0, .slice none 0 0, .string (⟨#[]⟩ : ByteArray), .string (⟨#[]⟩ : ByteArray)]) ?_ 3; refine M.fp (cs := #[.int .i64 0, .slice none 0 0, .string (⟨#[]⟩ : ByteArray), .string (⟨#[]⟩ : ByteArray)]) ?_ 2; refine M.fp (cs := #[.int .i64 0, .slice none 0 0, .string (⟨#[]⟩ : ByteArray), .string (⟨#[]⟩ : ByteArray)]) ?_ 1; refine M.fp (cs := #[.int .i64 0, .slice none 0 0, .string (⟨#[]⟩ : ByteArray), .string (⟨#[]⟩ : ByteArray)]) ?_ 0; exact M.bk zaf) Tryd.underlying24 rfl (by kernel_rfl)) rfl ?_
  exact ⟨_, M.eqe, M.nl, M.up HB⟩
section
theorem pleachref35_Back.in_ (l : List ByteArray) (n : ByteArray) (hl : l.length ≤ 4611686018427387903) : ∃ k, pleachref35_in.f k l n = some (M.hasN l n) := by
 have loop : ∀ (d i : Nat), i + d = l.length → pleachref35_in.l0 (d + 1) n l (l.length : Int) (i : Int) = some (M.hasN (l.drop i) n) := by
  intro d
  induction d with
  | zero =>
   intro i hi
   rw [pleachref35_in.l0, if_neg (by omega), List.drop_of_length_le (by omega)]
   rfl
  | succ d ih =>
   intro i hi
   have hlt : i < l.length := by omega
   have hrd : rdOf ByteArray.empty l (i : Int) = l[i] := by simp [rdOf, List.getD, hlt]
   rw [pleachref35_in.l0, if_pos (by omega), if_pos (by omega), if_pos (by omega), hrd, M.toList_bs, M.toList_bs, M.wrap64_id (by omega) (by omega), show (i : Int) + 1 = ((i + 1 : Nat) : Int) from by omega, ih (i + 1) (by omega), List.drop_eq_getElem_cons hlt]
   unfold M.hasN
   rw [List.any_cons]
   by_cases h : l[i] = n
   ·rw [if_pos (by rw [h]), h]; simp
   ·rw [if_neg (fun z => h (M.bs_inj z))]; simp [h]
 exact ⟨l.length + 1, loop l.length 0 (by omega)⟩
theorem pleachref35_Back.load (s : M.SS) (hl : s.ts.length ≤ 1000000000) (hts : ∀ t ∈ s.ts, t.size ≤ 1000000000000) (n : ByteArray) :
    (commit_visit.ld s n = none → pleachref35_Load.f s.ts (s.ts.map M.shaSum) s.a s.b n = some (0, [], ⟨#[]⟩, ⟨#[]⟩, false)) ∧ ∀ c, commit_visit.ld s n = some c → pleachref35_Load.f s.ts (s.ts.map M.shaSum) s.a s.b n = some (c.f0, c.f1, c.f2, c.f3, true) := by
 have hx : (s.get n).1.size ≤ 1000000000000 := by
  unfold M.SS.get
  cases hi : M.idx (s.ts.map M.shaSum) n.data.toList with
  | none => exact (show (0 : Nat) ≤ 1000000000000 by decide)
  | some i => exact hts _ (M.getD_mem (by have := (M.idx_lt hi).1; simpa using this))
 have hg : pleachref16_Get.f s.ts (s.ts.map M.shaSum) s.a s.b n = some (s.get n) := by
  unfold pleachref16_Get.f
  exact if_pos ⟨rfl, by omega⟩
 have ht : pleachref35_Take.f (s.get n).1 = some (if M.cgood (s.get n).1 then ((M.cN (s.get n).1).1, (M.cP (s.get n).1).1, (M.cG (s.get n).1).1, (M.cT (s.get n).1).1, true) else pleachref35_Take.no) := by
  unfold pleachref35_Take.f
  exact if_pos (by omega)
 unfold pleachref35_Load.f commit_visit.ld
 rw [hg, Option.bind_some, ht]
 by_cases h1 : (s.get n).2 = true
 ·by_cases h2 : M.cgood (s.get n).1
  ·rw [if_pos ⟨h1, h2⟩, if_pos h1, if_pos h2]
   exact ⟨fun h => by (cases h), fun c h => by (obtain rfl := Option.some.inj h; rfl)⟩
  ·rw [if_neg (fun h => h2 h.2), if_pos h1, if_neg h2]
   exact ⟨fun _ => rfl, fun c h => by (cases h)⟩
 ·rw [if_neg (fun h => h1 h.1), if_neg h1]
  exact ⟨fun _ => rfl, fun c h => by (cases h)⟩
structure pleachref35_Back.Rb (w0 W : World) (vN vA : Value) (A : Option Addr) (d : Nat) (ps : List ByteArray) (st : M.BS S24) : Prop where
  rn : Kd.R Kd.string 9 W w0.heap.size (fun _ => True) vN st.names
  ra : Kd.R k24 24 W w0.heap.size (fun j => some j ≠ vN.ownBlock) vA st.all
  re : Kd.C Kd.string w0 A ps.length ps ∨ Kd.R Kd.string 9 W w0.heap.size (fun j => some j ≠ vN.ownBlock) (.slice A ps.length d) ps
  low : Below w0.heap.size w0 W
structure pleachref35_Back.Rm (w0 W : World) (L U : Nat) (vN vA vP : Value) (A : Option Addr) (d : Nat) (ps names : List ByteArray) (all : List S24) (c : S24) : Prop where
  rn : Kd.R Kd.string 9 W w0.heap.size (fun _ => True) vN names
  ra : Kd.R k24 24 W w0.heap.size (fun j => some j ≠ vN.ownBlock) vA all
  re : Kd.C Kd.string w0 A ps.length ps ∨ Kd.R Kd.string 9 W w0.heap.size (fun j => some j ≠ vN.ownBlock) (.slice A ps.length d) ps
  low : Below w0.heap.size w0 W
  rp : Kd.R Kd.string 9 W w0.heap.size (fun j => L ≤ j ∧ j < U) vP c.f1
  ws : w0.heap.size ≤ L
  lu : L ≤ U
  uw : U ≤ W.heap.size
  hv : ∀ j, vN.ownBlock = some j → j < L ∨ U ≤ j
  ha : ∀ j, vA.ownBlock = some j → j < L
section
variable {w0 W w1 : World} {L U d : Nat} {vN vA vP v1 : Value} {A : Option Addr} {ps names : List ByteArray} {all : List S24} {c : S24} {st : M.BS S24}
theorem pleachref35_Back.Rb.below (H : pleachref35_Back.Rb w0 W vN vA A d ps st) (hb : Below W.heap.size W w1) : pleachref35_Back.Rb w0 w1 vN vA A d ps st :=
  ⟨Kd.R_below H.rn hb, Kd.R_below H.ra hb, H.re.imp id (fun h => Kd.R_below h hb), below_then H.low H.low.size hb⟩
theorem pleachref35_Back.Rm.below (H : pleachref35_Back.Rm w0 W L U vN vA vP A d ps names all c) (hb : Below W.heap.size W w1) : pleachref35_Back.Rm w0 w1 L U vN vA vP A d ps names all c :=
  ⟨Kd.R_below H.rn hb, Kd.R_below H.ra hb, H.re.imp id (fun h => Kd.R_below h hb), below_then H.low H.low.size hb, Kd.R_below H.rp hb, H.ws, H.lu, Nat.le_trans H.uw hb.size, H.hv, H.ha⟩
theorem pleachref35_Back.Rb.take (H : pleachref35_Back.Rb w0 W vN vA A d ps st) (hb : Below W.heap.size W w1) (hp : Kd.R Kd.string 9 w1 W.heap.size (fun _ => True) vP c.f1) : pleachref35_Back.Rm w0 w1 W.heap.size w1.heap.size vN vA vP A d ps st.names st.all c := by
 have h := H.below hb
 exact ⟨h.rn, h.ra, h.re, h.low, Kd.R_lower (Kd.R_mono (Kd.R_bound hp) (fun j hj => ⟨hj.2.1, hj.2.2.1⟩)) H.low.size, H.low.size, hb.size, Nat.le_refl _, fun j hj => .inl (commit_visit.typed H.rn j hj).2.1, fun j hj => (commit_visit.typed H.ra j hj).2.1⟩
theorem pleachref35_Back.moved {α : Type} {k : Kd α} {e base : Nat} {v u v1 : Value} {xs : List α} (h : k.R e W base (fun j => some j ≠ v.ownBlock) u xs) (hg : W.grownBy w1 v.ownBlock) (hat : v1.ownBlock = v.ownBlock ∨ ∃ b, v1.ownBlock = some b ∧ W.heap.size ≤ b) : k.R e w1 base (fun j => some j ≠ v1.ownBlock) u xs := by
 refine Kd.R_mono (Kd.R_grown (Kd.R_bound h) hg (fun j hj => hj.1)) (fun j hj => ?_)
 rcases hat with e | ⟨q, e, hq⟩
 ·rw [e]; exact hj.1
 ·rw [e]; intro e2; injection e2 with e2; have := hj.2.2.1; omega
theorem pleachref35_Back.Rm.app (H : pleachref35_Back.Rm w0 W L U vN vA vP A d ps names all c) {n : ByteArray} (hR : Kd.R Kd.string 9 w1 w0.heap.size (fun _ => True) v1 (names ++ [n])) (hb : Below w0.heap.size w0 w1) (hg : W.grownBy w1 vN.ownBlock)
    (hat : v1.ownBlock = vN.ownBlock ∨ ∃ b, v1.ownBlock = some b ∧ W.heap.size ≤ b) : pleachref35_Back.Rm w0 w1 L U v1 vA vP A d ps (names ++ [n]) all c := by
 refine ⟨hR, pleachref35_Back.moved H.ra hg hat, H.re.imp id (fun h => pleachref35_Back.moved h hg hat), hb, Kd.R_grown H.rp hg ?_, H.ws, H.lu, Nat.le_trans H.uw hg.size, ?_, H.ha⟩
 ·intro j hj e
  have := H.hv j e.symm
  omega
 ·intro j hj
  rcases hat with e | ⟨q, e, hq⟩
  ·exact H.hv j (e ▸ hj)
  ·rw [e] at hj; injection hj with hj; exact .inr (hj ▸ Nat.le_trans H.uw hq)
theorem pleachref35_Back.Rm.pm (H : pleachref35_Back.Rm w0 W L U vN vA vP A d ps names all c) : k24.M W w0.heap.size (fun j => L ≤ j ∧ j < U) c [.int .i64 c.f0, vP, .string c.f2, .string c.f3] := k24_mkM W _ _ c H.rp
theorem pleachref35_Back.Rm.okp (H : pleachref35_Back.Rm w0 W L U vN vA vP A d ps names all c) (j : Nat) (hj : L ≤ j ∧ j < U) : some j ≠ vN.ownBlock ∧ some j ≠ vA.ownBlock :=
  ⟨fun e => by have := H.hv j e.symm; omega, fun e => by have := H.ha j e.symm; omega⟩
theorem pleachref35_Back.Rm.fresh (H : pleachref35_Back.Rm w0 W L U vN vA vP A d ps names all c) (j : Nat) (hj : W.heap.size ≤ j) : some j ≠ vN.ownBlock := fun e => by have := (commit_visit.typed H.rn j e.symm).2.1; omega
theorem pleachref35_Back.Rm.fin (H : pleachref35_Back.Rm w0 W L U vN vA vP A d ps names all c) {v2 : Value} (hR : Kd.R k24 24 w1 w0.heap.size (fun j => some j ≠ vN.ownBlock) v2 (all ++ [c])) (hb : Below w0.heap.size w0 w1) (hg : W.grownBy w1 vA.ownBlock) : pleachref35_Back.Rb w0 w1 vN v2 A d ps ⟨names, all ++ [c], false⟩ :=
  ⟨commit_visit.past H.rn H.ra (by decide) hg, hR, H.re.imp id (fun h => commit_visit.past h H.ra (by decide) hg), hb⟩
theorem pleachref35_Back.Rb.row (H : pleachref35_Back.Rb w0 W vN vA A d ps st) : Kd.C Kd.string W A ps.length ps := by
 rcases H.re with h | h
 ·exact Kd.C_below h H.low
 ·exact (Kd.R_reads' h).2.2
theorem pleachref35_Back.Rb.next (H : pleachref35_Back.Rb w0 W vN vA A d ps st) (i : Nat) (hi : i < st.all.length) : ∃ ad A1 c1 cA, vA = .slice (some ad) st.all.length cA ∧ W.cell? ((ad.add (i * 4))) = some (.int .i64 (st.all[i]).f0) ∧ W.cell? ⟨(ad.add (i * 4)).block, (ad.add (i * 4)).off + 1, none⟩ = some (.slice A1 (st.all[i]).f1.length c1) ∧ W.cell? ⟨(ad.add (i * 4)).block, (ad.add (i * 4)).off + 2, none⟩ = some (.string (st.all[i]).f2) ∧ W.cell? ⟨(ad.add (i * 4)).block, (ad.add (i * 4)).off + 3, none⟩ = some (.string (st.all[i]).f3) ∧ pleachref35_Back.Rb w0 W vN vA A1 c1 (st.all[i]).f1 st := by
 obtain ⟨A, cA, rfl, hc, hr⟩ := OwnRow.reads H.ra.2
 obtain ⟨ad, cs, rfl, hl, hM, hcell⟩ := ReadsRow.get_ hr z24 (i : Int) (by omega) (by omega)
 rw [Int.toNat_natCast] at hM hcell
 have e : st.all.getD i z24 = st.all[i] := by simp [List.getD, hi]
 rw [e] at hM
 obtain ⟨v1, rfl, hR⟩ := k24_openM hM
 obtain ⟨A1, c1, rfl⟩ := Kd.R_slice hR
 exact ⟨ad, A1, c1, cA, rfl, hcell 0 _ rfl, by rw [← add_field _ _ 1 (by omega)]; exact hcell 1 _ rfl, by rw [← add_field _ _ 2 (by omega)]; exact hcell 2 _ rfl, by rw [← add_field _ _ 3 (by omega)]; exact hcell 3 _ rfl, H.rn, H.ra, .inr (Kd.R_mono hR (fun j hj => hj.1)), H.low⟩
end
end
section
theorem pleachref35_Back.ld0 (s : M.SS) (A0 A1 : Option Addr) (c0 c1 : Nat) (n : ByteArray) (w : World) (h0 : Kd.C Kd.string w A0 s.ts.length s.ts) (hc0 : s.ts.length ≤ c0) (h1 : Kd.C Kd.string w A1 s.ts.length (s.ts.map M.shaSum)) (hc1 : s.ts.length ≤ c1) (hl : s.ts.length ≤ 1000000000) (hts : ∀ t ∈ s.ts, t.size ≤ 1000000000000) (h : commit_visit.ld s n = none) :
    Calls Tryd.prog 50 #[.agg #[.slice A0 s.ts.length c0, .slice A1 s.ts.length c1, .string s.a, .string s.b], .string n] w fun e w' => ∃ B d, e = .returned (.tuple #[.agg #[.int .i64 0, .slice B 0 d, .string ⟨#[]⟩, .string ⟨#[]⟩], .bool false]) ∧ Below w.heap.size w w' := by
 have h2 := pleachref35_Load.calls A0 c0 s.ts A1 c1 (s.ts.map M.shaSum) s.a s.b n 0 [] ⟨#[]⟩ ⟨#[]⟩ false w h0 hc0 (by rw [List.length_map]; exact h1) (by rw [List.length_map]; exact hc1) ((pleachref35_Back.load s hl hts n).1 h)
 rw [List.length_map] at h2
 refine h2.mono ?_
 rintro e w' ⟨v, rfl, hR, hb⟩
 obtain ⟨B, d, rfl⟩ := Kd.R_slice hR
 exact ⟨B, d, rfl, hb⟩
theorem pleachref35_Back.ld1 (s : M.SS) (A0 A1 : Option Addr) (c0 c1 : Nat) (n : ByteArray) (w : World) (h0 : Kd.C Kd.string w A0 s.ts.length s.ts) (hc0 : s.ts.length ≤ c0) (h1 : Kd.C Kd.string w A1 s.ts.length (s.ts.map M.shaSum)) (hc1 : s.ts.length ≤ c1) (hl : s.ts.length ≤ 1000000000) (hts : ∀ t ∈ s.ts, t.size ≤ 1000000000000) (c : S24) (h : commit_visit.ld s n = some c) :
    Calls Tryd.prog 50 #[.agg #[.slice A0 s.ts.length c0, .slice A1 s.ts.length c1, .string s.a, .string s.b], .string n] w fun e w' => ∃ B d, e = .returned (.tuple #[.agg #[.int .i64 c.f0, .slice B c.f1.length d, .string c.f2, .string c.f3], .bool true]) ∧ Kd.R Kd.string 9 w' w.heap.size (fun _ => True) (.slice B c.f1.length d) c.f1 ∧ Below w.heap.size w w' := by
 have h2 := pleachref35_Load.calls A0 c0 s.ts A1 c1 (s.ts.map M.shaSum) s.a s.b n c.f0 c.f1 c.f2 c.f3 true w h0 hc0 (by rw [List.length_map]; exact h1) (by rw [List.length_map]; exact hc1) ((pleachref35_Back.load s hl hts n).2 c h)
 rw [List.length_map] at h2
 refine h2.mono ?_
 rintro e w' ⟨v, rfl, hR, hb⟩
 obtain ⟨B, d, rfl⟩ := Kd.R_slice hR
 exact ⟨B, d, rfl, hR, hb⟩
theorem pleachref35_Back.ldn (s : M.SS) (A0 A1 : Option Addr) (c0 c1 : Nat) (n : ByteArray) (w : World) (h0 : Kd.C Kd.string w A0 s.ts.length s.ts) (hc0 : s.ts.length ≤ c0) (h1 : Kd.C Kd.string w A1 s.ts.length (s.ts.map M.shaSum)) (hc1 : s.ts.length ≤ c1) (hl : s.ts.length ≤ 1000000000) (hts : ∀ t ∈ s.ts, t.size ≤ 1000000000000) :
    Calls Tryd.prog 50 #[.agg #[.slice A0 s.ts.length c0, .slice A1 s.ts.length c1, .string s.a, .string s.b], .string n] w fun e w' => ∃ B m d y z ok, e = .returned (.tuple #[.agg #[.int .i64 (commit_Back.num s n), .slice B m d, .string y, .string z], .bool ok]) ∧ Below w.heap.size w w' := by
 unfold commit_Back.num
 cases h : commit_visit.ld s n with
 | none =>
  refine (pleachref35_Back.ld0 s A0 A1 c0 c1 n w h0 hc0 h1 hc1 hl hts h).mono ?_
  rintro e w' ⟨B, d, rfl, hb⟩
  exact ⟨_, _, _, _, _, _, rfl, hb⟩
 | some c =>
  refine (pleachref35_Back.ld1 s A0 A1 c0 c1 n w h0 hc0 h1 hc1 hl hts c h).mono ?_
  rintro e w' ⟨B, d, rfl, _, hb⟩
  exact ⟨_, _, _, _, _, _, rfl, hb⟩
theorem pleachref35_Back.inw (l : List ByteArray) (AN : Option Addr) (cN : Nat) (n : ByteArray) (w : World) {base : Nat} {ok : Nat → Prop} (h : Kd.R Kd.string 9 w base ok (.slice AN l.length cN) l) (hl : l.length ≤ 1000000000) (b : Bool) (hb : M.hasN l n = b) :
    Calls Tryd.prog 49 #[.slice AN l.length cN, .string n] w fun e w' => e = .returned (.bool b) ∧ Below w.heap.size w w' := by
 obtain ⟨k, hk⟩ := pleachref35_Back.in_ l n (by omega)
 rw [hb] at hk
 obtain ⟨_, h2, h3⟩ := Kd.R_reads' h
 refine (pleachref35_in.calls k AN cN l n b w h3 h2 hk).mono ?_
 rintro e w' ⟨rfl, hd⟩
 exact ⟨rfl, hd.below⟩
theorem pleachref35_Back.size46 : (Tryd.prog.info? 46).map (·.size) = some 4 := by kernel_rfl
theorem pleachref35_Back.i9 : (Tryd.prog.info? 9).map (fun i => (i.zero, i.size, i.bytes)) = some (some (.string ByteArray.empty), 1, 16) := by kernel_rfl
theorem pleachref35_Back.foldBad (s : M.SS) (ps : List ByteArray) (st : M.BS S24) (k : Nat) (h : ((ps.take k).foldl (M.BS.step (commit_visit.ld s)) st).bad = true) : (ps.foldl (M.BS.step (commit_visit.ld s)) st).bad = true := by
 conv => lhs; rw [← List.take_append_drop k ps]
 rw [List.foldl_append, M.BS.fold_bad _ h]
 exact h
set_option maxHeartbeats 16000000 in
set_option maxRecDepth 100000 in
theorem pleachref35_Back.any (s : M.SS) (A0 A1 : Option Addr) (c0 c1 : Nat) (A : Option Addr) (c : Nat) (names : List ByteArray) (w : World) (h0 : Kd.C Kd.string w A0 s.ts.length s.ts) (hc0 : s.ts.length ≤ c0) (h1 : Kd.C Kd.string w A1 s.ts.length (s.ts.map M.shaSum)) (hc1 : s.ts.length ≤ c1) (hl : s.ts.length ≤ 1000000000) (hts : ∀ t ∈ s.ts, t.size ≤ 1000000000000) (hn : Kd.C Kd.string w A names.length names) :
    Calls Tryd.prog 25 #[.agg #[.slice A0 s.ts.length c0, .slice A1 s.ts.length c1, .string s.a, .string s.b], .slice A names.length c] w fun e w' => ∃ v1 v2, e = .returned (.tuple #[v1, v2, .int .i64 (commit_Back.res s names).2.2]) ∧ Kd.R Kd.string 9 w' w.heap.size (fun _ => True) v1 (commit_Back.res s names).1 ∧ Kd.R k24 24 w' w.heap.size (fun _ => True) v2 (commit_Back.res s names).2.1 ∧ Below w.heap.size w w' := by
 obtain ⟨W0, hW0⟩ : ∃ W0, w.alloc (.cells #[.slice A0 s.ts.length c0, .slice A1 s.ts.length c1, .string s.a, .string s.b] 46) = W0 := ⟨_, rfl⟩
 have HX0 := Aside0.mk (show M.rec_ W0 w.heap.size 46 [.slice A0 s.ts.length c0, .slice A1 s.ts.length c1, .string s.a, .string s.b] from hW0 ▸ M.rec_new w _ [.slice A0 s.ts.length c0, .slice A1 s.ts.length c1, .string s.a, .string s.b])
 have HR0 := Aside0.mk (show pleachref35_Back.Rb w W0 (.slice none 0 0) (.slice none 0 0) A c names ⟨[], [], false⟩ from ⟨Kd.R_nil _ _ _ _ _, Kd.R_nil _ _ _ _ _, .inl hn, hW0 ▸ below_alloc (Below.refl _ _) _⟩)
 have HW0 := Aside0.mk hW0
 have H0 := Aside0.mk h0
 have H1 := Aside0.mk h1
 have HTS := Aside0.mk hts
 have hnl : names.length ≤ 9223372036854775807 := hn.2.1
 clear h0 h1 hts hn hW0
 go_enter Tryd.func25, Tryd.ntmps25
 go_upto_region 1 with (fail)
 rw [HW0.out]
 go_wp2
 go_loopg [7, 8, 9, 10] (s.ts.length + 2) (fun kq v7 v8 v9 v10 wr => ∃ (i : Nat) (AN AA B : Option Addr) (cN cA d : Nat) (ps : List ByteArray) (st : M.BS S24), v7 = .slice AN st.names.length cN ∧ v8 = .slice AA st.all.length cA ∧ v9 = .slice B ps.length d ∧ v10 = .int .i64 (i : Int) ∧ Aside0 (i ≤ s.ts.length + 1) ∧ Aside0 (kq = s.ts.length + 2 - i) ∧ Aside0 (M.rec_ wr w.heap.size 46 [.slice A0 s.ts.length c0, .slice A1 s.ts.length c1, .string s.a, .string s.b]) ∧ Aside0 (pleachref35_Back.Rb w wr (.slice AN st.names.length cN) (.slice AA st.all.length cA) B d ps st) ∧ Aside0 (M.BS.Inv (commit_visit.ld s) (s.ts.map M.shaSum) st) ∧ Aside0 (st.bad = false) ∧ Aside0 ((i ≤ st.all.length ∧ commit_Back.st s names = M.BS.walk (commit_visit.ld s) (fun c => c.f1) (s.ts.length + 1 - i) i (ps.foldl (M.BS.step (commit_visit.ld s)) st)) ∨ (st.all.length < i ∧ commit_Back.st s names = st)))
 case atStart => exact ⟨0, none, none, A, 0, 0, c, names, ⟨[], [], false⟩, rfl, rfl, rfl, rfl, ⟨Nat.zero_le _⟩, ⟨rfl⟩, HX0, HR0, ⟨M.BS.inv0 _ _⟩, ⟨rfl⟩, ⟨.inl ⟨Nat.le_refl _, rfl⟩⟩⟩
 case round =>
  clear HX0 HR0 HW0
  obtain ⟨i, AN, AA, B, cN, cA, d, ps, st, rfl, rfl, rfl, rfl, HI, hkq, HX, HRB, HV, HBAD, HST⟩ := hrel
  have hfw := Aside0.mk (commit_Back.few s HV.out)
  have hal : st.all.length ≤ 1000000000 := Nat.le_trans hfw.out hl
  have hpl : ps.length ≤ 9223372036854775807 := HRB.out.row.2.1
  obtain ⟨W1, rfl⟩ : ∃ x, x = wr := ⟨_, rfl⟩
  by_cases hle : i ≤ st.all.length
  ·have HSW := Aside0.mk (HST.out.resolve_right (fun h => by omega)).2
   have p1 : (i : Int) ≤ (st.all.length : Int) := by omega
   have p3 := decide_eq_true p1
   go_wp2
   go_loopg [7, 8, 30] (ps.length) (fun kq2 v7 v8 v30 wr => ∃ (j : Nat) (AN AA : Option Addr) (cN cA : Nat) (st2 : M.BS S24), v7 = .slice AN st2.names.length cN ∧ v8 = .slice AA st2.all.length cA ∧ v30 = .int .i64 (j : Int) ∧ j ≤ ps.length ∧ Aside0 (kq2 = ps.length - j) ∧ Aside0 (st2 = (ps.take j).foldl (M.BS.step (commit_visit.ld s)) st) ∧ Aside0 (M.rec_ wr w.heap.size 46 [.slice A0 s.ts.length c0, .slice A1 s.ts.length c1, .string s.a, .string s.b]) ∧ Aside0 (pleachref35_Back.Rb w wr (.slice AN st2.names.length cN) (.slice AA st2.all.length cA) B d ps st2) ∧ Aside0 (st2.bad = false))
   case atStart => exact ⟨0, AN, AA, cN, cA, st, rfl, rfl, rfl, Nat.zero_le _, ⟨rfl⟩, ⟨rfl⟩, HX, HRB, HBAD⟩
   case round =>
    clear HX HRB
    obtain ⟨j, AN2, AA2, cN2, cA2, st2, rfl, rfl, rfl, hj, hkq2, HQ, HX, HRB, HBAD2⟩ := hrel
    obtain ⟨W2, rfl⟩ : ∃ x, x = wr := ⟨_, rfl⟩
    have HV2 := Aside0.mk (show M.BS.Inv (commit_visit.ld s) (s.ts.map M.shaSum) st2 from by rw [HQ.out]; exact M.BS.Inv.fold (commit_visit.ld s) (fun n c h => (commit_Back.ld_in s n c h).1) _ HV.out)
    have hal2 : st2.all.length ≤ 1000000000 := Nat.le_trans (commit_Back.few s HV2.out) hl
    have hnl2 : st2.names.length ≤ 1000000000 := by have := HV2.out.len; omega
    by_cases hlt : j < ps.length
    ·obtain ⟨nm, hnm⟩ : ∃ x, ps[j] = x := ⟨_, rfl⟩
     obtain ⟨ad, hB, e0⟩ := Kd.at_string HRB.out.row (j : Int) (by omega) (by omega)
     rw [show rdOf ByteArray.empty ps (j : Int) = nm from by rw [← hnm]; simp [rdOf, List.getD, hlt], Int.toNat_natCast] at e0
     subst hB
     have HE0 := Aside0.mk e0
     have HF1 := Aside0.mk (show (ps.take (j + 1)).foldl (M.BS.step (commit_visit.ld s)) st = M.BS.step (commit_visit.ld s) st2 nm from by rw [commit_Back.fold1 s ps st j hlt, hnm, ← HQ.out])
     have p4 : (j : Int) < (ps.length : Int) := by omega
     have p5 : (0 : Int) ≤ (j : Int) := by omega
     have p6 := decide_eq_true p4
     have HLOW := Aside0.mk HRB.out.low
     clear hnm
     cases hm : M.hasN st2.names nm with
     | true =>
      have HS2 := Aside0.mk (show st2 = (ps.take (j + 1)).foldl (M.BS.step (commit_visit.ld s)) st from by rw [HF1.out]; unfold M.BS.step; rw [if_pos (.inl hm)])
      have HM := Aside0.mk hm
      clear hm
      go_wp2_with (go_at_call 49; (with_reducible refine (pleachref35_Back.inw st2.names AN2 cN2 nm _ HRB.out.rn hnl2 true HM.out).mono ?_); rintro e w1 ⟨rfl, hb⟩; have HX1 := Aside0.mk (M.rec_below HX.out hb); have HR1 := Aside0.mk (HRB.out.below hb); clear hb)
      go_roundg (ps.length - (j + 1))
      case measure => have := hkq2.out; omega
      case rel => exact ⟨j + 1, AN2, AA2, cN2, cA2, st2, rfl, rfl, by go_num, by omega, ⟨rfl⟩, HS2, HX1, HR1, HBAD2⟩
     | false =>
      have HM := Aside0.mk hm
      have hmn : ¬ (M.hasN st2.names nm = true ∨ st2.bad = true) := fun h => h.elim (fun h => by rw [hm] at h; cases h) (fun h => by rw [HBAD2.out] at h; cases h)
      have HMN := Aside0.mk hmn
      clear hm hmn
      cases hld : commit_visit.ld s nm with
      | none =>
       have HL := Aside0.mk hld
       have HSTEP := Aside0.mk (show M.BS.step (commit_visit.ld s) st2 nm = ⟨st2.names, st2.all, true⟩ from by unfold M.BS.step; rw [if_neg HMN.out, hld])
       have HR := Aside0.mk (show commit_Back.res s names = ([], [], 13) from by
        have hb1 : (ps.foldl (M.BS.step (commit_visit.ld s)) st).bad = true := pleachref35_Back.foldBad s ps st (j + 1) (by rw [HF1.out, HSTEP.out])
        unfold commit_Back.res
        simp only []
        rw [HSW.out, M.BS.walk_bad _ _ hb1, if_pos hb1])
       clear hld
       go_wp2_with (first | (go_at_call 49; (with_reducible refine (pleachref35_Back.inw st2.names AN2 cN2 nm _ HRB.out.rn hnl2 false HM.out).mono ?_); rintro e w1 ⟨rfl, hb⟩; have HX1 := Aside0.mk (M.rec_below HX.out hb); have HR1 := Aside0.mk (HRB.out.below hb); clear hb) | ((with_reducible refine gate_dst (N := 38) rfl ?_); (try (refine gate_guard (by rfl) ?_; dsimp only)); refine M.wp_rec_load rfl 46 _ rfl w.heap.size 46 [.slice A0 s.ts.length c0, .slice A1 s.ts.length c1, .string s.a, .string s.b] rfl HX1.out _ Tryd.underlying46 rfl pleachref35_Back.size46 ?_) | (go_at_call 50; (with_reducible refine (pleachref35_Back.ld0 s A0 A1 c0 c1 nm _ (Kd.C_below H0.out HR1.out.low) hc0 (Kd.C_below H1.out HR1.out.low) hc1 hl HTS.out HL.out).mono ?_); rintro e w2 ⟨B2, d2, rfl, hb2⟩; have HB2 := Aside0.mk (below_then HR1.out.low HR1.out.low.size hb2); clear hb2) | ((with_reducible refine gate_store (t := 24) (p := 13) (v := .tmp 41) rfl ?_); refine M.wp_rec_store rfl 24 _ _ rfl w2.heap.size 24 commit_Load.zero_ [.int .i64 0, .slice B2 0 d2, .string ⟨#[]⟩, .string ⟨#[]⟩] rfl rfl (M.rec_new w2 24 commit_Load.zero_) rfl commit_Load.size_ rfl ?_; intro w4 hA4 hF4 hB4 hz4; have HB4 := Aside0.mk (below_step HB2.out (hB4 _ _ (Nat.le_refl _) (below_alloc (Below.refl w2.heap.size w2) _))); clear hA4 hF4 hB4 hz4))
       exact bodyPost_ret (v := .tuple #[.slice none 0 0, .slice none 0 0, .int .i64 13]) (by simp [results, Tryd.results25, go_sem]) rfl (by rw [HR.out]; exact ⟨_, _, rfl, Kd.R_nil _ _ _ _ _, Kd.R_nil _ _ _ _ _, HB4.out⟩)
      | some cm =>
       have HL := Aside0.mk hld
       have HSTEP := Aside0.mk (show M.BS.step (commit_visit.ld s) st2 nm = ⟨st2.names ++ [nm], st2.all ++ [cm], false⟩ from by unfold M.BS.step; rw [if_neg HMN.out, hld])
       have HS2 := Aside0.mk (show (⟨st2.names ++ [nm], st2.all ++ [cm], false⟩ : M.BS S24) = (ps.take (j + 1)).foldl (M.BS.step (commit_visit.ld s)) st from by rw [HF1.out, HSTEP.out])
       have HLN := Aside0.mk (show (st2.names.length + 1) * 16 ≤ 140737488355328 from by omega)
       have HLA := Aside0.mk (show (st2.all.length + 1) * 64 ≤ 140737488355328 from by omega)
       clear hld
       go_wp2_with (first | (go_at_call 49; (with_reducible refine (pleachref35_Back.inw st2.names AN2 cN2 nm _ HRB.out.rn hnl2 false HM.out).mono ?_); rintro e w1 ⟨rfl, hb⟩; have HX1 := Aside0.mk (M.rec_below HX.out hb); have HR1 := Aside0.mk (HRB.out.below hb); clear hb) | ((with_reducible refine gate_dst (N := 38) rfl ?_); (try (refine gate_guard (by rfl) ?_; dsimp only)); refine M.wp_rec_load rfl 46 _ rfl w.heap.size 46 [.slice A0 s.ts.length c0, .slice A1 s.ts.length c1, .string s.a, .string s.b] rfl HX1.out _ Tryd.underlying46 rfl pleachref35_Back.size46 ?_) | (go_at_call 50; (with_reducible refine (pleachref35_Back.ld1 s A0 A1 c0 c1 nm _ (Kd.C_below H0.out HR1.out.low) hc0 (Kd.C_below H1.out HR1.out.low) hc1 hl HTS.out cm HL.out).mono ?_); rintro e w2 ⟨B2, d2, rfl, hp, hb2⟩; have HP2 := Aside0.mk (HR1.out.take hb2 hp); have HX2 := Aside0.mk (M.rec_below HX1.out hb2); clear hp hb2) | ((with_reducible refine gate_store (t := 24) (p := 13) (v := .tmp 41) rfl ?_); refine M.wp_rec_store rfl 24 _ _ rfl w2.heap.size 24 commit_Load.zero_ [.int .i64 cm.f0, .slice B2 cm.f1.length d2, .string cm.f2, .string cm.f3] rfl rfl (M.rec_new w2 24 commit_Load.zero_) rfl commit_Load.size_ rfl ?_; intro w4 hA4 hF4 hB4 hz4; have hy := hB4 _ _ (Nat.le_refl _) (below_alloc (Below.refl w2.heap.size w2) _); have HP4 := Aside0.mk (HP2.out.below hy); have HX4 := Aside0.mk (M.rec_below HX2.out hy); have HC4 := Aside0.mk hA4; clear hA4 hF4 hB4 hz4 hy) | ((with_reducible refine gate_builtin (b := .append) (xs := #[.tmp 45, .tmp 47]) rfl ?_); at_builtin; refine Kd.R_append Kd.string (w0 := w) w.heap.size rfl (.tmp 45) (.tmp 47) 22 9 (.string ByteArray.empty) 16 rfl Tryd.underlying22 pleachref35_Back.i9 rfl (by decide) (by decide) (.slice AN2 st2.names.length cN2) st2.names nm [.string nm] (fun _ => True) (fun _ => False) rfl rfl (by exact rfl) (fun _ hk => hk.elim) (fun _ _ => trivial) HP4.out.rn HP4.out.low HP4.out.low.size HLN.out ?_; intro v5 w5 ho hb hg hat; obtain ⟨A5, c5, rfl⟩ := Kd.R_slice ho; have HP5 := Aside0.mk (HP4.out.app ho hb hg hat); have HX5 := Aside0.mk (M.rec_grown HX4.out hg (commit_visit.nb HP4.out.rn HX4.out (by decide))); have HC5 := Aside0.mk (M.rec_grown HC4.out hg (commit_visit.nb HP4.out.rn HC4.out (by decide))); clear ho hb hg hat) | ((with_reducible refine gate_dst (N := 50) rfl ?_); (try (refine gate_guard (by rfl) ?_; dsimp only)); refine M.wp_rec_load rfl 24 _ rfl w2.heap.size 24 [.int .i64 cm.f0, .slice B2 cm.f1.length d2, .string cm.f2, .string cm.f3] rfl HC5.out _ Tryd.underlying24 rfl commit_Load.size_ ?_) | ((with_reducible refine gate_builtin (b := .append) (xs := #[.tmp 49, .tmp 51]) rfl ?_); at_builtin; refine Kd.R_append k24 (w0 := w) w.heap.size rfl (.tmp 49) (.tmp 51) 49 24 (.agg #[.int .i64 0, .slice none 0 0, .string ⟨#[]⟩, .string ⟨#[]⟩]) 64 rfl Tryd.underlying49 commit_visit.i24 rfl (by decide) (by decide) (.slice AA2 st2.all.length cA2) st2.all cm [.int .i64 cm.f0, .slice B2 cm.f1.length d2, .string cm.f2, .string cm.f3] (fun j => some j ≠ (Value.slice A5 (st2.names ++ [nm]).length c5).ownBlock) _ rfl rfl HP5.out.pm HP5.out.okp HP5.out.fresh HP5.out.ra HP5.out.low HP5.out.low.size HLA.out ?_; intro v6 w6 ho hb hg hat; obtain ⟨A6, c6, rfl⟩ := Kd.R_slice ho; have HX6 := Aside0.mk (M.rec_grown HX5.out hg (commit_visit.nb HP5.out.ra HX5.out (by decide))); have HR6 := Aside0.mk (HP5.out.fin ho hb hg); clear ho hb hg hat))
       go_roundg (ps.length - (j + 1))
       case measure => have := hkq2.out; omega
       case rel => exact ⟨j + 1, A5, A6, c5, c6, ⟨st2.names ++ [nm], st2.all ++ [cm], false⟩, by simp, by simp, by go_num, by omega, ⟨rfl⟩, HS2, HX6, ⟨by simpa using HR6.out⟩, ⟨rfl⟩⟩
    ·obtain rfl : j = ps.length := by omega
     rw [List.take_length] at HQ
     have p6 : decide ((ps.length : Int) < (ps.length : Int)) = false := decide_eq_false (by omega)
     have HSW2 := Aside0.mk (show commit_Back.st s names = M.BS.walk (commit_visit.ld s) (fun c => c.f1) (s.ts.length + 1 - i) i st2 from by rw [HSW.out, ← HQ.out])
     have hfw2 := Aside0.mk (commit_Back.few s HV2.out)
     clear hj
     by_cases hlt2 : i < st2.all.length
     ·obtain ⟨ad, A1, c1', cA3, he, e0, e1, _, _, hN⟩ := HRB.out.next i hlt2
      injection he with he1 _ he2
      subst he1
      subst he2
      obtain ⟨ps2, hps⟩ : ∃ x, (st2.all[i]).f1 = x := ⟨_, rfl⟩
      rw [hps] at e1 hN
      have HRN := Aside0.mk hN
      have HWS := Aside0.mk (show commit_Back.st s names = M.BS.walk (commit_visit.ld s) (fun c => c.f1) (s.ts.length + 1 - (i + 1)) (i + 1) (ps2.foldl (M.BS.step (commit_visit.ld s)) st2) from by
       have h1 := hfw2.out
       rw [HSW2.out, show s.ts.length + 1 - i = s.ts.length + 1 - (i + 1) + 1 from by omega, commit_Back.walk_step s st2 i _ hlt2 HBAD2.out, hps])
      have HI1 := Aside0.mk (show i + 1 ≤ st2.all.length from by omega)
      have HI2 := Aside0.mk (show i + 1 ≤ s.ts.length + 1 from by have := hfw2.out; omega)
      have p7 : (i : Int) < (st2.all.length : Int) := by omega
      have p8 : (0 : Int) ≤ (i : Int) := by omega
      have p9 := decide_eq_true p7
      clear e0 hN hps
      go_wp2
      go_roundg (s.ts.length + 2 - (i + 1))
      case measure => (refine Nat.lt_of_lt_of_le ?_ (Nat.le_of_eq hkq.out.symm); have := HI2.out; omega)
      case rel => exact ⟨i + 1, AN2, some ad, A1, cN2, cA2, c1', ps2, st2, rfl, rfl, rfl, by go_num, HI2, ⟨rfl⟩, HX, HRN, HV2, HBAD2, ⟨.inl ⟨HI1.out, HWS.out⟩⟩⟩
     ·have HE := Aside0.mk (show commit_Back.st s names = st2 from by rw [HSW2.out]; exact commit_Back.walk_stop s st2 i (fun h => hlt2 h.1) _)
      have HI1 := Aside0.mk (show st2.all.length < i + 1 from by omega)
      have HI2 := Aside0.mk (show i + 1 ≤ s.ts.length + 1 from by have := hfw.out; omega)
      have p7 : (st2.all.length : Int) ≤ (i : Int) := by omega
      have p9 : decide ((i : Int) < (st2.all.length : Int)) = false := decide_eq_false (by omega)
      go_wp2
      go_roundg (s.ts.length + 2 - (i + 1))
      case measure => (refine Nat.lt_of_lt_of_le ?_ (Nat.le_of_eq hkq.out.symm); have := HI2.out; omega)
      case rel => exact ⟨i + 1, AN2, AA2, B, cN2, cA2, d, ps, st2, rfl, rfl, rfl, by go_num, HI2, ⟨rfl⟩, HX, HRB, HV2, HBAD2, ⟨.inr ⟨HI1.out, HE.out⟩⟩⟩
  ·have HE := Aside0.mk (HST.out.resolve_left (fun h => by omega)).2
   have p3 : decide ((i : Int) ≤ (st.all.length : Int)) = false := decide_eq_false (by omega)
   have p7 : (st.all.length : Int) < (i : Int) := by omega
   have HL3 := Aside0.mk HRB.out.low
   clear HST hkq HI hle
   have p3n : decide (i ≤ st.all.length) = false := decide_eq_false (by omega)
   go_wp2
   go_loopg [65] (st.all.length) (fun kq3 v65 wr3 => ∃ q : Nat, v65 = .int .i64 (q : Int) ∧ q ≤ st.all.length ∧ Aside0 (kq3 = st.all.length - q) ∧ Aside0 (Below W1.heap.size W1 wr3) ∧ Aside0 ((st.all.take q).any (commit_Back.rotC s) = false))
   case atStart => exact ⟨0, rfl, Nat.zero_le _, ⟨rfl⟩, ⟨Below.refl _ _⟩, ⟨rfl⟩⟩
   case round =>
    obtain ⟨q, rfl, hq, hkq3, HB3, HA3⟩ := hrel
    obtain ⟨W4, rfl⟩ : ∃ x, x = wr := ⟨_, rfl⟩
    by_cases hlt3 : q < st.all.length
    ·obtain ⟨ad, A1', c1', cA2, he, e0, e1, e2, e3, hN⟩ := HRB.out.next q hlt3
     injection he with he1 _ he2
     subst he1
     subst he2
     obtain ⟨cm, hcm⟩ : ∃ x, st.all[q] = x := ⟨_, rfl⟩
     rw [hcm] at e0 e1 e2 e3 hN
     have HCM := Aside0.mk hcm
     have HP := Aside0.mk hN.row
     have hpl2 : cm.f1.length ≤ 9223372036854775807 := hN.row.2.1
     have q0 := (HB3.out.cell (World.block_lt_of_cell? W1 _ e0)).trans e0
     have q1 := (HB3.out.cell (World.block_lt_of_cell? W1 _ e1)).trans e1
     have q2 := (HB3.out.cell (World.block_lt_of_cell? W1 _ e2)).trans e2
     have q3 := (HB3.out.cell (World.block_lt_of_cell? W1 _ e3)).trans e3
     have p4 : (q : Int) < (st.all.length : Int) := by omega
     have p5 : (0 : Int) ≤ (q : Int) := by omega
     have p6 := decide_eq_true p4
     clear e0 e1 e2 e3 hN hcm
     go_wp2_with (first | ((with_reducible refine gate_store (t := 24) (p := 16) (v := .tmp 68) rfl ?_); refine M.wp_rec_store rfl 24 _ _ rfl W4.heap.size 24 commit_Load.zero_ [.int .i64 cm.f0, .slice A1' cm.f1.length c1', .string cm.f2, .string cm.f3] rfl rfl (M.rec_new W4 24 commit_Load.zero_) rfl commit_Load.size_ rfl ?_; intro w4 hA4 hF4 hB4 hz4; have HB4 := Aside0.mk (below_step HB3.out (hB4 _ _ (Nat.le_refl _) (below_alloc (Below.refl W4.heap.size W4) _))); have HC4 := Aside0.mk hA4; have r1 := M.rec_cell hA4 1 _ rfl; clear hA4 hF4 hB4 hz4))
     go_loopg [72] (cm.f1.length) (fun kq4 v72 wr4 => ∃ j : Nat, v72 = .int .i64 (j : Int) ∧ j ≤ cm.f1.length ∧ Aside0 (kq4 = cm.f1.length - j) ∧ Aside0 (Below w4.heap.size w4 wr4) ∧ Aside0 ((cm.f1.take j).any (commit_Back.bad1 s cm) = false))
     case atStart => exact ⟨0, rfl, Nat.zero_le _, ⟨rfl⟩, ⟨Below.refl _ _⟩, ⟨rfl⟩⟩
     case round =>
      clear r1 q0 q1 q2 q3
      obtain ⟨j, rfl, hj, hkq4, HB5, HA5⟩ := hrel
      obtain ⟨W5, rfl⟩ : ∃ x, x = wr := ⟨_, rfl⟩
      have HB35 := Aside0.mk (below_step HB4.out HB5.out)
      by_cases hlt4 : j < cm.f1.length
      ·obtain ⟨nm, hnm⟩ : ∃ x, cm.f1[j] = x := ⟨_, rfl⟩
       obtain ⟨ad2, hA1, e0⟩ := Kd.at_string HP.out (j : Int) (by omega) (by omega)
       rw [show rdOf ByteArray.empty cm.f1 (j : Int) = nm from by rw [← hnm]; simp [rdOf, List.getD, hlt4], Int.toNat_natCast] at e0
       subst hA1
       have q0 := (HB35.out.cell (World.block_lt_of_cell? W1 _ e0)).trans e0
       have HNM := Aside0.mk hnm
       have HX1 := Aside0.mk (M.rec_below HX.out HB35.out)
       have HLOW5 := Aside0.mk (below_then HL3.out HL3.out.size HB35.out)
       have p7 : (j : Int) < (cm.f1.length : Int) := by omega
       have p8 : (0 : Int) ≤ (j : Int) := by omega
       have p9 := decide_eq_true p7
       obtain ⟨nn, hnn⟩ : ∃ x, commit_Back.num s nm = x := ⟨_, rfl⟩
       have HNN := Aside0.mk hnn
       have t0 : W5.cell? ⟨W4.heap.size, 0, none⟩ = some (.int .i64 cm.f0) := M.rec_cell (M.rec_below HC4.out HB5.out) 0 _ rfl
       have HT0 := Aside0.mk t0
       clear e0 hnm
       by_cases hbd : cm.f0 ≤ nn
       ·have x1 := decide_eq_true hbd
        have HR := Aside0.mk (show commit_Back.res s names = ([], [], 16) from by
         unfold commit_Back.res
         simp only []
         rw [HE.out, if_neg (by rw [HBAD.out]; decide), if_pos]
         refine commit_Back.hit _ _ q hlt3 ?_
         rw [HCM.out]
         refine commit_Back.hit _ _ j hlt4 ?_
         rw [HNM.out]
         unfold commit_Back.bad1
         rw [HNN.out]
         exact decide_eq_true hbd)
        go_wp2_with (first | ((with_reducible refine gate_dst (N := 77) rfl ?_); (try (refine gate_guard (by rfl) ?_; dsimp only)); refine M.wp_rec_load rfl 46 _ rfl w.heap.size 46 [.slice A0 s.ts.length c0, .slice A1 s.ts.length c1, .string s.a, .string s.b] rfl HX1.out _ Tryd.underlying46 rfl pleachref35_Back.size46 ?_) | (go_at_call 50; (with_reducible refine (pleachref35_Back.ldn s A0 A1 c0 c1 nm _ (Kd.C_below H0.out HLOW5.out) hc0 (Kd.C_below H1.out HLOW5.out) hc1 hl HTS.out).mono ?_); rw [HNN.out]; rintro e w6 ⟨B6, m6, d6, y6, z6, ok6, rfl, hb6⟩; have HB6 := Aside0.mk (below_step HLOW5.out hb6); have HD6 := Aside0.mk (below_step HB5.out hb6); clear hb6) | ((with_reducible refine gate_store (t := 24) (p := 19) (v := .tmp 80) rfl ?_); refine M.wp_rec_store rfl 24 _ _ rfl w6.heap.size 24 commit_Load.zero_ [.int .i64 nn, .slice B6 m6 d6, .string y6, .string z6] rfl rfl (M.rec_new w6 24 commit_Load.zero_) rfl commit_Load.size_ rfl ?_; intro w7 hA7 hF7 hB7 hz7; have hy := hB7 _ _ (Nat.le_refl _) (below_alloc (Below.refl w6.heap.size w6) _); have HB7 := Aside0.mk (below_step HB6.out hy); have HD7 := Aside0.mk (below_step HD6.out hy); have u0 := M.rec_cell hA7 0 _ rfl; have t1 := M.rec_cell (M.rec_below HC4.out HD7.out) 0 _ rfl; clear hA7 hF7 hB7 hz7 hy))
        exact bodyPost_ret (v := .tuple #[.slice none 0 0, .slice none 0 0, .int .i64 16]) (by simp [results, Tryd.results25, go_sem]) rfl (by rw [HR.out]; exact ⟨_, _, rfl, Kd.R_nil _ _ _ _ _, Kd.R_nil _ _ _ _ _, HB7.out⟩)
       ·have HBF := Aside0.mk (decide_eq_false hbd)
        have x1 := decide_eq_false hbd
        go_wp2_with (first | ((with_reducible refine gate_dst (N := 77) rfl ?_); (try (refine gate_guard (by rfl) ?_; dsimp only)); refine M.wp_rec_load rfl 46 _ rfl w.heap.size 46 [.slice A0 s.ts.length c0, .slice A1 s.ts.length c1, .string s.a, .string s.b] rfl HX1.out _ Tryd.underlying46 rfl pleachref35_Back.size46 ?_) | (go_at_call 50; (with_reducible refine (pleachref35_Back.ldn s A0 A1 c0 c1 nm _ (Kd.C_below H0.out HLOW5.out) hc0 (Kd.C_below H1.out HLOW5.out) hc1 hl HTS.out).mono ?_); rw [HNN.out]; rintro e w6 ⟨B6, m6, d6, y6, z6, ok6, rfl, hb6⟩; have HB6 := Aside0.mk (below_step HLOW5.out hb6); have HD6 := Aside0.mk (below_step HB5.out hb6); clear hb6) | ((with_reducible refine gate_store (t := 24) (p := 19) (v := .tmp 80) rfl ?_); refine M.wp_rec_store rfl 24 _ _ rfl w6.heap.size 24 commit_Load.zero_ [.int .i64 nn, .slice B6 m6 d6, .string y6, .string z6] rfl rfl (M.rec_new w6 24 commit_Load.zero_) rfl commit_Load.size_ rfl ?_; intro w7 hA7 hF7 hB7 hz7; have hy := hB7 _ _ (Nat.le_refl _) (below_alloc (Below.refl w6.heap.size w6) _); have HB7 := Aside0.mk (below_step HB6.out hy); have HD7 := Aside0.mk (below_step HD6.out hy); have u0 := M.rec_cell hA7 0 _ rfl; have t1 := M.rec_cell (M.rec_below HC4.out HD7.out) 0 _ rfl; clear hA7 hF7 hB7 hz7 hy))
        go_roundg (cm.f1.length - (j + 1))
        case measure => have := hkq4.out; omega
        case rel => exact ⟨j + 1, by go_num, by omega, ⟨rfl⟩, HD7, ⟨commit_Back.any1 _ _ j hlt4 HA5.out (by rw [HNM.out]; unfold commit_Back.bad1; rw [HNN.out]; exact HBF.out)⟩⟩
      ·obtain rfl : j = cm.f1.length := by omega
       rw [List.take_length] at HA5
       have p9 : decide ((cm.f1.length : Int) < (cm.f1.length : Int)) = false := decide_eq_false (by omega)
       go_wp2
       go_roundg (st.all.length - (q + 1))
       case measure => (refine Nat.lt_of_lt_of_le ?_ (Nat.le_of_eq hkq3.out.symm); omega)
       case rel => exact ⟨q + 1, by go_num, by omega, ⟨rfl⟩, HB35, ⟨commit_Back.any1 _ _ q hlt3 HA3.out (by rw [HCM.out]; exact HA5.out)⟩⟩
    ·obtain rfl : q = st.all.length := by omega
     rw [List.take_length] at HA3
     have p9 : decide ((st.all.length : Int) < (st.all.length : Int)) = false := decide_eq_false (by omega)
     have HR := Aside0.mk (show commit_Back.res s names = (st.names, st.all, 0) from by
      unfold commit_Back.res
      simp only []
      rw [HE.out, if_neg (by rw [HBAD.out]; decide), if_neg (by rw [HA3.out]; decide)])
     go_wp2
     exact bodyPost_ret (v := .tuple #[.slice AN st.names.length cN, .slice AA st.all.length cA, .int .i64 0]) (by simp [results, Tryd.results25, go_sem]) rfl (by rw [HR.out]; exact ⟨_, _, rfl, Kd.R_below HRB.out.rn HB3.out, Kd.R_mono (Kd.R_below HRB.out.ra HB3.out) (fun _ _ => trivial), below_then HL3.out HL3.out.size HB3.out⟩)
end
section
def pleachref35_Knots.T12 : Bool × List (List Nat × List Nat) := (true, [([], []), ([], []), ([0, 1], [0, 1]), ([2], [2]), ([3], [3]), ([], []), ([4, 5], [4, 5]), ([6], [6]), ([7], [7]), ([8, 7], [7, 8]), ([9, 7, 7], [7, 9]), ([10], [10]), ([10], [10]), ([11, 12, 10], [10, 11, 12]), ([13, 10], [10, 13]), ([14, 10], [10, 14]), ([10], [10]), ([10], [10]), ([16, 17, 10], [10, 16, 17]), ([18, 10], [10, 18]), ([19, 10], [10, 19]), ([15, 20, 10], [10, 15, 20]), ([10, 21, 7], [7, 10, 21]), ([7, 22], [7, 22])])
def pleachref35_Knots.B12 : List Nat := [0, 0, 3, 7, 15, 0, 63, 127, 255, 511, 1023, 2047, 2047, 8191, 16383, 32767, 2047, 2047, 198655, 460799, 985087, 2097151, 4194303, 8388607]
theorem pleachref35_Knots.tab12 : rtab .any (opsOf Tryd.f28 12) = pleachref35_Knots.T12 := by kernel_rfl
theorem pleachref35_Knots.bits12 : waitsOk pleachref35_Knots.T12.2 pleachref35_Knots.B12 = true := by kernel_rfl
theorem commit_Knots.back_ {W : World} {ax : Addr} {q : Nat} {nl : List ByteArray} {nm : ByteArray} (h : ∃ ad, some ax = some ad ∧ W.cell? (ad.add q) = some (.string (nl.getD q ByteArray.empty))) (hn : nl.getD q ByteArray.empty = nm) : W.cell? (ax.add q) = some (.string nm) := by
 obtain ⟨ad, e, h⟩ := h
 injection e with e
 rw [e, ← hn]
 exact h
theorem pleachref35_Knots.b2 (s : M.SS) (A0 A1 : Option Addr) (c0 c1 : Nat) {A : Option Addr} {c : Nat} {names : List ByteArray} {w : World} {nl : List ByteArray} {al : List S24} {er : Int} (h0 : Kd.C Kd.string w A0 s.ts.length s.ts) (hc0 : s.ts.length ≤ c0) (h1 : Kd.C Kd.string w A1 s.ts.length (s.ts.map M.shaSum)) (hc1 : s.ts.length ≤ c1) (hl : s.ts.length ≤ 1000000000) (hts : ∀ t ∈ s.ts, t.size ≤ 1000000000000) (hn : Kd.C Kd.string w A names.length names) (h : commit_Back.res s names = (nl, al, er)) :
    Calls Tryd.prog 25 #[.agg #[.slice A0 s.ts.length c0, .slice A1 s.ts.length c1, .string s.a, .string s.b], .slice A names.length c] w fun e w' => ∃ X x Y y, e = .returned (.tuple #[.slice X nl.length x, .slice Y al.length y, .int .i64 er]) ∧ Kd.R Kd.string 9 w' w.heap.size (fun _ => True) (.slice X nl.length x) nl ∧ Kd.R k24 24 w' w.heap.size (fun _ => True) (.slice Y al.length y) al ∧ Below w.heap.size w w' := by
 have := pleachref35_Back.any s A0 A1 c0 c1 A c names w h0 hc0 h1 hc1 hl hts hn
 rw [h] at this
 refine this.mono ?_
 rintro e w' ⟨v1, v2, rfl, h1, h2, hb⟩
 obtain ⟨X, x, rfl⟩ := Kd.R_slice h1
 obtain ⟨Y, y, rfl⟩ := Kd.R_slice h2
 exact ⟨X, x, Y, y, rfl, h1, h2, hb⟩
set_option maxHeartbeats 16000000 in
set_option maxRecDepth 100000 in
theorem pleachref35_Knots.any (s : M.SS) (A0 A1 : Option Addr) (c0 c1 : Nat) (A : Option Addr) (c : Nat) (names : List ByteArray) (w : World) (h0 : Kd.C Kd.string w A0 s.ts.length s.ts) (hc0 : s.ts.length ≤ c0) (h1 : Kd.C Kd.string w A1 s.ts.length (s.ts.map M.shaSum)) (hc1 : s.ts.length ≤ c1) (hl : s.ts.length ≤ 1000000) (hts : ∀ t ∈ s.ts, t.size ≤ 1000000000000) (hn : Kd.C Kd.string w A names.length names) :
    Calls Tryd.prog 28 #[.agg #[.slice A0 s.ts.length c0, .slice A1 s.ts.length c1, .string s.a, .string s.b], .slice A names.length c] w fun e w' => ∃ v1 v2, e = .returned (.tuple #[v1, v2, .int .i64 (commit_Knots.res s names).2.2]) ∧ Kd.R k62 62 w' w.heap.size (fun _ => True) v1 (commit_Knots.res s names).1 ∧ Kd.R Kd.string 9 w' w.heap.size (fun _ => True) v2 (commit_Knots.res s names).2.1 ∧ Below w.heap.size w w' := by
  obtain ⟨⟨nl, al, er⟩, hres⟩ : ∃ y, commit_Back.res s names = y := ⟨_, rfl⟩
  have HRES := Aside0.mk hres
  obtain ⟨W0, hW0⟩ : ∃ W0, w.alloc (.cells #[.slice A0 s.ts.length c0, .slice A1 s.ts.length c1, .string s.a, .string s.b] 46) = W0 := ⟨_, rfl⟩
  have HX9 := Aside0.mk (show M.rec_ W0 w.heap.size 46 [.slice A0 s.ts.length c0, .slice A1 s.ts.length c1, .string s.a, .string s.b] from hW0 ▸ M.rec_new w _ [.slice A0 s.ts.length c0, .slice A1 s.ts.length c1, .string s.a, .string s.b])
  have HB0 := Aside0.mk (show Below w.heap.size w W0 from hW0 ▸ below_alloc (Below.refl _ _) _)
  have HW0 := Aside0.mk hW0
  have HX0 := HX9
  have H0 := Aside0.mk h0
  have H1 := Aside0.mk h1
  have HTS := Aside0.mk hts
  have HN := Aside0.mk hn
  have hl2 : s.ts.length ≤ 1000000000 := by omega
  clear h0 h1 hts hn hW0 hres
  by_cases her : ¬ er = 0
  · have x1 : (er == 0) = false := by simp [her]
    have x2 : decide (er = 0) = false := decide_eq_false her
    have HR := Aside0.mk (show commit_Knots.res s names = ([], [], er) from by unfold commit_Knots.res; simp only [HRES.out]; rw [if_neg her])
    go_enter Tryd.func28, Tryd.ntmps28
    go_upto_region 1 with (fail)
    rw [HW0.out]
    go_wp2_with (first | ((with_reducible refine gate_dst (N := 21) rfl ?_); (try (refine gate_guard (by rfl) ?_; dsimp only)); refine M.wp_rec_load rfl 46 _ rfl w.heap.size 46 [.slice A0 s.ts.length c0, .slice A1 s.ts.length c1, .string s.a, .string s.b] rfl HX9.out _ Tryd.underlying46 rfl pleachref35_Back.size46 ?_) | (go_at_call 25; (with_reducible refine (pleachref35_Knots.b2 s A0 A1 c0 c1 (Kd.C_below H0.out HB0.out) hc0 (Kd.C_below H1.out HB0.out) hc1 hl2 HTS.out (Kd.C_below HN.out HB0.out) HRES.out).mono ?_); rintro e w1 ⟨X, x, Y, y, rfl, hv1, hv2, hb1⟩; have HB1 := Aside0.mk (below_step HB0.out hb1); clear hv1 hv2 hb1))
    exact bodyPost_ret (v := .tuple #[.slice none 0 0, .slice none 0 0, .int .i64 er]) (by simp [results, Tryd.results28, go_sem]) rfl (by rw [HR.out]; exact ⟨_, _, rfl, Kd.R_nil _ _ _ _ _, Kd.R_nil _ _ _ _ _, HB1.out⟩)
  obtain rfl : er = 0 := Decidable.not_not.1 her
  clear her
  have HG := Aside0.mk (commit_Knots.good s names HRES.out)
  have hfew : al.length ≤ 1000000 := Nat.le_trans HG.out.few hl
  have hnl : nl.length = al.length := HG.out.len
  obtain ⟨ns, hns⟩ : ∃ l, commit_Knots.ns al = l := ⟨_, rfl⟩
  obtain ⟨ds, hds⟩ : ∃ l, M.srt ns = l := ⟨_, rfl⟩
  have HNS := Aside0.mk hns
  have HDS := Aside0.mk hds
  have hnsl : ns.length = al.length := by rw [← hns]; simp [commit_Knots.ns]
  have hdsl : ds.length ≤ al.length := by have := M.srt_len ns; rw [hds, hnsl] at this; exact this
  have HNG := Aside0.mk (show ∀ i, (hi : i < al.length) → ns.getD i 0 = (al[i]).f0 from fun i hi => by rw [← hns]; simp [commit_Knots.ns, List.getD, hi])
  clear hns hds
  go_enter Tryd.func28, Tryd.ntmps28
  go_upto_region 1 with (fail)
  rw [HW0.out]
  go_wp2_with (first | ((with_reducible refine gate_dst (N := 21) rfl ?_); (try (refine gate_guard (by rfl) ?_; dsimp only)); refine M.wp_rec_load rfl 46 _ rfl w.heap.size 46 [.slice A0 s.ts.length c0, .slice A1 s.ts.length c1, .string s.a, .string s.b] rfl HX9.out _ Tryd.underlying46 rfl pleachref35_Back.size46 ?_) | (go_at_call 25; (with_reducible refine (pleachref35_Knots.b2 s A0 A1 c0 c1 (Kd.C_below H0.out HB0.out) hc0 (Kd.C_below H1.out HB0.out) hc1 hl2 HTS.out (Kd.C_below HN.out HB0.out) HRES.out).mono ?_); rintro e w1 ⟨X, x, Y, y, rfl, hv1, hv2, hb1⟩; have HV1 := Aside0.mk hv1; have HV2 := Aside0.mk hv2; have HX1 := Aside0.mk (M.rec_below HX9.out hb1); have HB1 := Aside0.mk (below_step HB0.out hb1); clear hv1 hv2 hb1))
  clear HX9 HX0 HB0 HW0
  go_loopg [10, 11, 12] (ds.length + 1) (fun kq v10 v11 v12 wr => ∃ (k : Nat) (KS : List S62) (OS : List ByteArray) (AK AO : Option Addr) (ck co : Nat) (last : Int), v10 = .slice AK KS.length ck ∧ v11 = .slice AO OS.length co ∧ v12 = .int .i64 last ∧ Aside0 (k ≤ ds.length) ∧ Aside0 (kq = ds.length + 1 - k) ∧ Aside0 (M.Behind ns last k) ∧ Aside0 (KS = (ds.take k).map (commit_Knots.kn s al)) ∧ Aside0 (OS = (ds.take k).map (commit_Knots.nm nl al)) ∧ Aside0 (Below w1.heap.size w1 wr) ∧ Aside0 (Kd.R k62 62 wr w1.heap.size (fun _ => True) (.slice AK KS.length ck) KS) ∧ Aside0 (Kd.R Kd.string 9 wr w1.heap.size (fun _ => True) (.slice AO OS.length co) OS))
  case atStart => exact ⟨0, [], [], none, none, 0, 0, 0, rfl, rfl, rfl, ⟨Nat.zero_le _⟩, ⟨rfl⟩, ⟨M.behind0 (fun x hx => by
      obtain ⟨j, hj, rfl⟩ := M.idx_of_mem hx
      rw [HNG.out j (by omega)]
      have := (HG.out.pos _ (List.getElem_mem (show j < al.length by omega))).1
      omega)⟩, ⟨rfl⟩, ⟨rfl⟩, ⟨Below.refl _ _⟩, ⟨Kd.R_nil _ _ _ _ _⟩, ⟨Kd.R_nil _ _ _ _ _⟩⟩
  case round =>
    obtain ⟨k, KS, OS, AK, AO, ck, co, last, rfl, rfl, rfl, HK, hkq, HBH, HKS, HOS, HB7, HRK, HRO⟩ := hrel
    obtain ⟨W7, rfl⟩ : ∃ x, x = wr := ⟨_, rfl⟩
    have HKL := Aside0.mk (show KS.length = k from by rw [HKS.out]; have := HK.out; simp; omega)
    have HOL := Aside0.mk (show OS.length = k from by rw [HOS.out]; have := HK.out; simp; omega)
    by_cases hka : KS.length < al.length
    · have p1 : (KS.length : Int) < (al.length : Int) := by omega
      have p2 : decide ((KS.length : Int) < (al.length : Int)) = true := decide_eq_true p1
      have HKA := Aside0.mk hka
      clear hka
      go_wp2
      go_loopg [13, 37] (al.length) (fun kq2 v13 v37 wr => ∃ (i : Nat) (nxt : Int), v13 = .int .i64 nxt ∧ v37 = .int .i64 (i : Int) ∧ i ≤ al.length ∧ Aside0 (kq2 = al.length - i) ∧ Aside0 (M.Scan ns last i nxt) ∧ Aside0 (Below W7.heap.size W7 wr))
      case atStart => exact ⟨0, -1, rfl, rfl, Nat.zero_le _, ⟨rfl⟩, ⟨M.Scan.zero _ _⟩, ⟨Below.refl _ _⟩⟩
      case round =>
        obtain ⟨i, nxt, rfl, rfl, hi, hkq2, HSC, HB8⟩ := hrel
        obtain ⟨W8, rfl⟩ : ∃ x, x = wr := ⟨_, rfl⟩
        have HB18 := Aside0.mk (below_step HB7.out HB8.out)
        by_cases hlt : i < al.length
        · obtain ⟨aa, P1, p1_, he1, e0, _, _, _, _, _⟩ := commit_Knots.at_ (Kd.R_below HV2.out HB18.out) hlt
          subst he1
          obtain ⟨x, hx⟩ : ∃ z, (al[i]).f0 = z := ⟨_, rfl⟩
          rw [hx] at e0
          have HGX := Aside0.mk (show ns.getD i 0 = x from by rw [HNG.out i hlt, hx])
          have p4 : (i : Int) < (al.length : Int) := by omega
          have p5 : (0 : Int) ≤ (i : Int) := by omega
          have p6 := decide_eq_true p4
          clear hx
          by_cases hx1 : last < x
          · have t1 : decide (last < x) = true := decide_eq_true hx1
            have HX1_ := Aside0.mk hx1
            by_cases hn0 : nxt < 0
            · have t2 : decide (nxt < 0) = true := decide_eq_true hn0
              have HSY := Aside0.mk (show M.Scan ns last (i + 1) (i : Int) from HSC.out.yes (by rw [HGX.out]; exact hx1) (.inl hn0))
              clear hx1 hn0
              go_upto_region 12 with (fail)
              refine start_ (n := 24) (S := fun w' => w'.cell? (aa.add (i * 4)) = some (.int .i64 x)) (ds := []) (M.tf [0, 24]) (by kernel_rfl) rfl rfl (e0) (fun hHeld => ?_)
              refine with_tabW pleachref35_Knots.tab12 pleachref35_Knots.bits12 (fun HT_ HW_ => ?_)
              refine M.pu 0 40 [1, 23] HT_ ?_
              refine M.pu 1 41 [2, 22] HT_ ?_
              refine M.pu 2 42 [3, 21] HT_ ?_
              refine M.pu 3 43 [4, 20] HT_ ?_
              refine M.pu 5 45 [4, 1, 1, 18] HT_ ?_
              refine M.tk 4 44 [6, 18] HT_ HW_ hHeld ?_
              refine M.pu 6 46 [7, 17] HT_ ?_
              refine M.pu 7 47 [8, 16] HT_ ?_
              refine M.pu 8 48 [9, 15] HT_ ?_
              refine M.pu 9 49 [10, 14] HT_ ?_
              refine M.pu 10 50 [11, 13] HT_ ?_
              refine M.pn 11 51 [12, 12] HT_ ?_
              refine M.pn 12 52 [13, 11] HT_ ?_
              refine M.pn 13 53 [14, 10] HT_ ?_
              refine M.pn 14 54 [15, 9] HT_ ?_
              refine M.pn 15 55 [16, 8] HT_ ?_
              refine M.pn 16 56 [17, 7] HT_ ?_
              refine M.pn 17 57 [18, 6] HT_ ?_
              refine M.pn 18 58 [19, 5] HT_ ?_
              refine M.pn 19 59 [20, 4] HT_ ?_
              refine M.pn 20 60 [21, 3] HT_ ?_
              refine M.pn 21 61 [22, 2] HT_ ?_
              refine M.pu 22 62 [23, 1] HT_ ?_
              refine M.pu 23 63 [24] HT_ ?_
              refine done_ (done_of HT_.out (by kernel_rfl)) ?_
              go_wp2
              go_roundg (al.length - (i + 1))
              case measure => have := hkq2.out; omega
              case rel => exact ⟨i + 1, (i : Int), rfl, by go_num, by omega, ⟨rfl⟩, HSY, ⟨below_drew1 HB8.out⟩⟩
            · obtain ⟨q, rfl, hq⟩ : ∃ q : Nat, nxt = (q : Int) ∧ q < i := by
                rcases HSC.out with ⟨e, _⟩ | ⟨j, hj, e, _⟩
                · omega
                · exact ⟨j, e, hj⟩
              have hqa : q < al.length := by omega
              obtain ⟨_, _, _, he2, e0q, _, _, _, _, _⟩ := commit_Knots.at_ (Kd.R_below HV2.out HB18.out) hqa
              injection he2 with he2
              subst he2
              obtain ⟨y, hy⟩ : ∃ z, (al[q]).f0 = z := ⟨_, rfl⟩
              rw [hy] at e0q
              have HGY := Aside0.mk (show ns.getD q 0 = y from by rw [HNG.out q hqa, hy])
              have t2 : decide ((q : Int) < 0) = false := decide_eq_false hn0
              have p7 : (q : Int) < (al.length : Int) := by omega
              have p8 : (0 : Int) ≤ (q : Int) := by omega
              clear hy hn0
              by_cases hxy : x < y
              · have t3 : decide (x < y) = true := decide_eq_true hxy
                have HSY := Aside0.mk (show M.Scan ns last (i + 1) (i : Int) from HSC.out.yes (by rw [HGX.out]; exact hx1) (.inr (by rw [Int.toNat_natCast, HGX.out, HGY.out]; exact hxy)))
                clear hx1 hxy
                go_upto_region 12 with (fail)
                refine start_ (n := 24) (S := fun w' => w'.cell? (aa.add (i * 4)) = some (.int .i64 x) ∧ w'.cell? (aa.add (q * 4)) = some (.int .i64 y)) (ds := []) (M.tf [0, 24]) (by kernel_rfl) rfl rfl ⟨e0, e0q⟩ (fun hHeld => ?_)
                refine with_tabW pleachref35_Knots.tab12 pleachref35_Knots.bits12 (fun HT_ HW_ => ?_)
                refine M.pu 0 40 [1, 23] HT_ ?_
                refine M.pu 1 41 [2, 22] HT_ ?_
                refine M.pu 2 42 [3, 21] HT_ ?_
                refine M.pu 3 43 [4, 20] HT_ ?_
                refine M.pu 5 45 [4, 1, 1, 18] HT_ ?_
                refine M.tk 4 44 [6, 18] HT_ HW_ hHeld ?_
                refine M.pu 6 46 [7, 17] HT_ ?_
                refine M.pu 7 47 [8, 16] HT_ ?_
                refine M.pu 8 48 [9, 15] HT_ ?_
                refine M.pu 9 49 [10, 14] HT_ ?_
                refine M.pu 10 50 [11, 13] HT_ ?_
                refine M.pu 11 51 [12, 12] HT_ ?_
                refine M.pu 12 52 [13, 11] HT_ ?_
                refine M.pu 13 53 [14, 10] HT_ ?_
                refine M.pu 14 54 [15, 9] HT_ ?_
                refine M.pu 16 56 [15, 1, 1, 7] HT_ ?_
                refine M.pu 17 57 [15, 1, 2, 6] HT_ ?_
                refine M.pu 18 58 [15, 1, 3, 5] HT_ ?_
                refine M.pu 19 59 [15, 1, 4, 4] HT_ ?_
                refine M.tk 15 55 [20, 4] HT_ HW_ hHeld ?_
                refine M.tk 20 60 [21, 3] HT_ HW_ hHeld ?_
                refine M.pu 21 61 [22, 2] HT_ ?_
                refine M.pu 22 62 [23, 1] HT_ ?_
                refine M.pu 23 63 [24] HT_ ?_
                refine done_ (done_of HT_.out (by kernel_rfl)) ?_
                go_wp2
                go_roundg (al.length - (i + 1))
                case measure => have := hkq2.out; omega
                case rel => exact ⟨i + 1, (i : Int), rfl, by go_num, by omega, ⟨rfl⟩, HSY, ⟨below_drew1 HB8.out⟩⟩
              · have t3 : decide (x < y) = false := decide_eq_false hxy
                have HSN := Aside0.mk (show M.Scan ns last (i + 1) (q : Int) from HSC.out.no (fun h => by
                  rcases h.2 with h2 | h2
                  · omega
                  · rw [Int.toNat_natCast, HGX.out, HGY.out] at h2; omega))
                clear hx1 hxy
                go_upto_region 12 with (fail)
                refine start_ (n := 24) (S := fun w' => w'.cell? (aa.add (i * 4)) = some (.int .i64 x) ∧ w'.cell? (aa.add (q * 4)) = some (.int .i64 y)) (ds := []) (M.tf [0, 24]) (by kernel_rfl) rfl rfl ⟨e0, e0q⟩ (fun hHeld => ?_)
                refine with_tabW pleachref35_Knots.tab12 pleachref35_Knots.bits12 (fun HT_ HW_ => ?_)
                refine M.pu 0 40 [1, 23] HT_ ?_
                refine M.pu 1 41 [2, 22] HT_ ?_
                refine M.pu 2 42 [3, 21] HT_ ?_
                refine M.pu 3 43 [4, 20] HT_ ?_
                refine M.pu 5 45 [4, 1, 1, 18] HT_ ?_
                refine M.tk 4 44 [6, 18] HT_ HW_ hHeld ?_
                refine M.pu 6 46 [7, 17] HT_ ?_
                refine M.pu 7 47 [8, 16] HT_ ?_
                refine M.pu 8 48 [9, 15] HT_ ?_
                refine M.pu 9 49 [10, 14] HT_ ?_
                refine M.pu 10 50 [11, 13] HT_ ?_
                refine M.pu 11 51 [12, 12] HT_ ?_
                refine M.pu 12 52 [13, 11] HT_ ?_
                refine M.pu 13 53 [14, 10] HT_ ?_
                refine M.pu 14 54 [15, 9] HT_ ?_
                refine M.pu 16 56 [15, 1, 1, 7] HT_ ?_
                refine M.pu 17 57 [15, 1, 2, 6] HT_ ?_
                refine M.pu 18 58 [15, 1, 3, 5] HT_ ?_
                refine M.pu 19 59 [15, 1, 4, 4] HT_ ?_
                refine M.tk 15 55 [20, 4] HT_ HW_ hHeld ?_
                refine M.tk 20 60 [21, 3] HT_ HW_ hHeld ?_
                refine M.pu 21 61 [22, 2] HT_ ?_
                refine M.pu 22 62 [23, 1] HT_ ?_
                refine M.pu 23 63 [24] HT_ ?_
                refine done_ (done_of HT_.out (by kernel_rfl)) ?_
                go_wp2
                go_roundg (al.length - (i + 1))
                case measure => have := hkq2.out; omega
                case rel => exact ⟨i + 1, (q : Int), rfl, by go_num, by omega, ⟨rfl⟩, HSN, ⟨below_drew1 HB8.out⟩⟩
          · have t1 : decide (last < x) = false := decide_eq_false hx1
            have HSN := Aside0.mk (show M.Scan ns last (i + 1) nxt from HSC.out.no (fun h => hx1 (by rw [← HGX.out]; exact h.1)))
            clear hx1
            go_upto_region 12 with (fail)
            refine start_ (n := 24) (S := fun w' => w'.cell? (aa.add (i * 4)) = some (.int .i64 x)) (ds := []) (M.tf [0, 24]) (by kernel_rfl) rfl rfl (e0) (fun hHeld => ?_)
            refine with_tabW pleachref35_Knots.tab12 pleachref35_Knots.bits12 (fun HT_ HW_ => ?_)
            refine M.pu 0 40 [1, 23] HT_ ?_
            refine M.pu 1 41 [2, 22] HT_ ?_
            refine M.pu 2 42 [3, 21] HT_ ?_
            refine M.pu 3 43 [4, 20] HT_ ?_
            refine M.pu 5 45 [4, 1, 1, 18] HT_ ?_
            refine M.tk 4 44 [6, 18] HT_ HW_ hHeld ?_
            refine M.pu 6 46 [7, 17] HT_ ?_
            refine M.pu 7 47 [8, 16] HT_ ?_
            refine M.pn 8 48 [9, 15] HT_ ?_
            refine M.pn 9 49 [10, 14] HT_ ?_
            refine M.pn 10 50 [11, 13] HT_ ?_
            refine M.pn 11 51 [12, 12] HT_ ?_
            refine M.pn 12 52 [13, 11] HT_ ?_
            refine M.pn 13 53 [14, 10] HT_ ?_
            refine M.pn 14 54 [15, 9] HT_ ?_
            refine M.pn 15 55 [16, 8] HT_ ?_
            refine M.pn 16 56 [17, 7] HT_ ?_
            refine M.pn 17 57 [18, 6] HT_ ?_
            refine M.pn 18 58 [19, 5] HT_ ?_
            refine M.pn 19 59 [20, 4] HT_ ?_
            refine M.pn 20 60 [21, 3] HT_ ?_
            refine M.pn 21 61 [22, 2] HT_ ?_
            refine M.pn 22 62 [23, 1] HT_ ?_
            refine M.pu 23 63 [24] HT_ ?_
            refine done_ (done_of HT_.out (by kernel_rfl)) ?_
            go_wp2
            go_roundg (al.length - (i + 1))
            case measure => have := hkq2.out; omega
            case rel => exact ⟨i + 1, nxt, rfl, by go_num, by omega, ⟨rfl⟩, HSN, ⟨below_drew1 HB8.out⟩⟩
        · obtain rfl : i = al.length := by omega
          have hsc := HSC.out
          rw [← hnsl] at hsc
          have HSC2 := Aside0.mk hsc
          have p6 : decide ((al.length : Int) < (al.length : Int)) = false := decide_eq_false (by omega)
          clear hsc HSC hlt hi hkq2
          by_cases hkd : k < ds.length
          · obtain ⟨n, hn⟩ : ∃ x, ds[k] = x := ⟨_, rfl⟩
            have HSN := Aside0.mk (show ∃ h : k < (M.srt ns).length, (M.srt ns)[k] = n from ⟨by rw [HDS.out]; exact hkd, by simp only [HDS.out]; exact hn⟩)
            have hnm : n ∈ ns := (M.mem_srt n _).1 (by rw [HDS.out, ← hn]; exact List.getElem_mem hkd)
            obtain ⟨hq1, hq2, _⟩ := M.fst_spec hnm
            obtain ⟨q, hq⟩ : ∃ x, M.fst_ ns n = x := ⟨_, rfl⟩
            rw [hq] at hq1 hq2
            obtain rfl : nxt = (q : Int) := by
              obtain ⟨h1, h2⟩ := HSN.out
              have h3 := HSC2.out.some HBH.out h1
              rw [h2, hq] at h3
              exact h3
            have hql : q < al.length := by omega
            obtain ⟨cm, hcm⟩ : ∃ x, al[q] = x := ⟨_, rfl⟩
            obtain ⟨nm, hnn⟩ : ∃ x, nl.getD q ByteArray.empty = x := ⟨_, rfl⟩
            have hcn : cm.f0 = n := by rw [← hcm, ← hq2, HNG.out q hql]
            have hpos := HG.out.pos cm (hcm ▸ List.getElem_mem hql)
            have HKN := Aside0.mk (show commit_Knots.kn s al n = ⟨n, cm.f1.map (commit_Back.num s)⟩ from by
              unfold commit_Knots.kn
              rw [HNS.out, hq, show al.getD q z24 = cm from by rw [← hcm]; simp [List.getD, hql]])
            have HNN := Aside0.mk (show commit_Knots.nm nl al n = nm from by unfold commit_Knots.nm; rw [HNS.out, hq, hnn])
            have HTK := Aside0.mk (show ds.take (k + 1) = ds.take k ++ [n] from by rw [List.take_succ_eq_append_getElem hkd, hn])
            have HBN := Aside0.mk (show M.Behind ns n (k + 1) from by
              obtain ⟨h1, h2⟩ := HSN.out
              have h3 := M.behindS h1
              rw [h2] at h3
              exact h3)
            obtain ⟨aa, P1, p1_, he1, e0, e1, e2, e3, hl1, hC1⟩ := commit_Knots.at_ (Kd.R_below HV2.out HB18.out) hql
            obtain ⟨ax, he2, f0⟩ := commit_Knots.name_ (Kd.R_below HV1.out HB18.out) (show q < nl.length from by omega)
            subst he1
            subst he2
            rw [hcm] at e0 e1 hC1
            rw [hcn] at e0
            rw [hnn] at f0
            have HCX := Aside0.mk f0
            have HCX1 := Aside0.mk (commit_Knots.back_ (commit_Knots.name_ HV1.out (show q < nl.length from by omega)) hnn)
            have HCA := Aside0.mk hC1
            have hpl : cm.f1.length ≤ 2 := hpos.2.2.1
            have HE1 := Aside0.mk e1
            have HKD := Aside0.mk hkd
            have t2 : decide ((q : Int) < 0) = false := decide_eq_false (by omega)
            have t3 : (0 : Int) ≤ (q : Int) := by omega
            have t4 : (q : Int) < (al.length : Int) := by omega
            have t5 : (q : Int) < (nl.length : Int) := by omega
            clear e1 e2 e3 f0 hC1 hcm hnn hn hq hq1 hq2 hnm hkd
            go_wp2_with (first | ((with_reducible refine gate_store (t := 62) (p := 15) (v := .tmp 74) rfl ?_); refine M.wp_rec_store rfl 62 _ _ rfl W8.heap.size 62 [.int .i64 0, .slice none 0 0] [.int .i64 n, .slice none 0 0] rfl rfl (M.rec_new W8 62 [.int .i64 0, .slice none 0 0]) rfl commit_Knots.size62 rfl ?_; intro w8 hAx hFx hBx hzx; have hy := hBx _ _ (Nat.le_refl _) (below_alloc (Below.refl _ _) _); have HC8 := Aside0.mk hAx; have HD8 := Aside0.mk hy; have k1 := (hy.cell (World.block_lt_of_cell? W8 _ HE1.out)).trans HE1.out; clear hAx hFx hBx hzx hy))
            obtain ⟨ps, hps⟩ : ∃ x, cm.f1.map (commit_Back.num s) = x := ⟨_, rfl⟩
            have HPS := Aside0.mk hps
            rw [hps] at HKN
            clear hps e0
            go_loopg [81] (cm.f1.length) (fun kq3 v81 wr => ∃ (j : Nat) (JS : List Int) (AP : Option Addr) (pc : Nat), v81 = .int .i64 (j : Int) ∧ j ≤ cm.f1.length ∧ Aside0 (kq3 = cm.f1.length - j) ∧ Aside0 (JS = (cm.f1.take j).map (commit_Back.num s)) ∧ Aside0 (Below W8.heap.size W8 wr) ∧ Aside0 (M.rec_ wr W8.heap.size 62 [.int .i64 n, .slice AP JS.length pc]) ∧ Aside0 (Kd.R (Kd.int .i64) 3 wr W8.heap.size (fun _ => True) (.slice AP JS.length pc) JS))
            case atStart => exact ⟨0, [], none, 0, rfl, Nat.zero_le _, ⟨rfl⟩, ⟨rfl⟩, HD8, HC8, ⟨Kd.R_nil _ _ _ _ _⟩⟩
            case round =>
              clear k1
              obtain ⟨j, JS, AP, pc, rfl, hj, hkq3, HJS, HD9, HC9, HP9⟩ := hrel
              obtain ⟨W9, rfl⟩ : ∃ x, x = wr := ⟨_, rfl⟩
              have HB19 := Aside0.mk (below_step HB18.out HD9.out)
              have HJL := Aside0.mk (show JS.length = j from by rw [HJS.out]; simp; omega)
              by_cases hlt2 : j < cm.f1.length
              · obtain ⟨p, hp⟩ : ∃ x, cm.f1[j] = x := ⟨_, rfl⟩
                obtain ⟨ap, he, e0⟩ := Kd.at_string HCA.out (j : Int) (by omega) (by omega)
                rw [show rdOf ByteArray.empty cm.f1 (j : Int) = p from by rw [← hp]; simp [rdOf, List.getD, hlt2], Int.toNat_natCast] at e0
                subst he
                have r0 := (HD9.out.cell (World.block_lt_of_cell? W8 _ e0)).trans e0
                obtain ⟨np, hnp⟩ : ∃ x, commit_Back.num s p = x := ⟨_, rfl⟩
                have HNP := Aside0.mk hnp
                have HX9 := Aside0.mk (M.rec_below HX1.out HB19.out)
                have HLOW9 := Aside0.mk (below_step HB1.out HB19.out)
                have HJ1 := Aside0.mk (show JS ++ [np] = (cm.f1.take (j + 1)).map (commit_Back.num s) from by rw [List.take_succ_eq_append_getElem hlt2, List.map_append, ← HJS.out, hp]; simp [hnp])
                have HLJ := Aside0.mk (show (JS.length + 1) * 8 ≤ 140737488355328 from by have := HJL.out; omega)
                have p7 : (j : Int) < (cm.f1.length : Int) := by omega
                have p8 : (0 : Int) ≤ (j : Int) := by omega
                have p9 := decide_eq_true p7
                clear e0 hp hnp
                go_wp2_with (first | ((with_reducible refine gate_dst (N := 86) rfl ?_); (try (refine gate_guard (by rfl) ?_; dsimp only)); refine M.wp_rec_load rfl 46 _ rfl w.heap.size 46 [.slice A0 s.ts.length c0, .slice A1 s.ts.length c1, .string s.a, .string s.b] rfl HX9.out _ Tryd.underlying46 rfl pleachref35_Back.size46 ?_) | (go_at_call 50; (with_reducible refine (pleachref35_Back.ldn s A0 A1 c0 c1 p _ (Kd.C_below H0.out HLOW9.out) hc0 (Kd.C_below H1.out HLOW9.out) hc1 hl2 HTS.out).mono ?_); rw [HNP.out]; rintro e w6 ⟨B6, m6, d6, y6, z6, ok6, rfl, hb6⟩; have HD6 := Aside0.mk (below_step HD9.out hb6); have HC6 := Aside0.mk (M.rec_below HC9.out hb6); have HP6 := Aside0.mk (Kd.R_below HP9.out hb6); clear hb6) | ((with_reducible refine gate_store (t := 24) (p := 18) (v := .tmp 89) rfl ?_); refine M.wp_rec_store rfl 24 _ _ rfl w6.heap.size 24 commit_Load.zero_ [.int .i64 np, .slice B6 m6 d6, .string y6, .string z6] rfl rfl (M.rec_new w6 24 commit_Load.zero_) rfl commit_Load.size_ rfl ?_; intro w7 hA7 hF7 hB7 hz7; have hy := hB7 _ _ (Nat.le_refl _) (below_alloc (Below.refl w6.heap.size w6) _); have HD7 := Aside0.mk (below_step HD6.out hy); have HC7 := Aside0.mk (M.rec_below HC6.out hy); have HP7 := Aside0.mk (Kd.R_below HP6.out hy); have u0 := M.rec_cell hA7 0 _ rfl; have r1 := M.rec_cell HC7.out 1 _ rfl; clear hA7 hF7 hB7 hz7 hy) | ((with_reducible refine gate_builtin (b := .append) (xs := #[.tmp 92, .tmp 95]) rfl ?_); at_builtin; refine Kd.R_append (Kd.int .i64) (w0 := W8) W8.heap.size rfl (.tmp 92) (.tmp 95) 60 3 (.int .i64 0) 8 rfl Tryd.underlying60 commit_Knots.i3 rfl (by decide) (by decide) (.slice AP JS.length pc) JS np [.int .i64 np] (fun _ => True) (fun _ => False) rfl rfl (by exact rfl) (fun _ hk => hk.elim) (fun _ _ => trivial) HP7.out HD7.out HD7.out.size HLJ.out ?_; intro v10 w10 ho hb hg hat; obtain ⟨A10, c10, rfl⟩ := Kd.R_slice ho; have hk10 := M.rec_grown HC7.out hg (commit_visit.nb HP7.out HC7.out (by decide)); have r2 := M.rec_cell hk10 1 _ rfl; have r3 := M.rec_free hk10 1; have HC10 := Aside0.mk hk10; have HO10 := Aside0.mk ho; have HD10 := Aside0.mk hb; clear ho hb hg hat hk10))
                go_roundg (cm.f1.length - (j + 1))
                case measure => have := hkq3.out; omega
                case rel => exact ⟨j + 1, JS ++ [np], A10, c10, by go_num, by omega, ⟨rfl⟩, HJ1, ⟨HD10.out.setCell (p := ⟨W8.heap.size, 1, none⟩) (Nat.le_refl _) _⟩, ⟨by simpa using M.rec_set HC10.out 1 (.slice A10 (JS ++ [np]).length c10)⟩, ⟨by simpa using Kd.R_set HO10.out HC10.out (by decide) 1 (.slice A10 (JS ++ [np]).length c10)⟩⟩
              · obtain rfl : j = cm.f1.length := by omega
                have hjs := HJS.out
                rw [List.take_length, HPS.out] at hjs
                subst hjs
                have p9 : decide ((cm.f1.length : Int) < (cm.f1.length : Int)) = false := decide_eq_false (by omega)
                have HLK5 := Aside0.mk (show (KS.length + 1) * 32 ≤ 140737488355328 from by have := HKL.out; have := HK.out; omega)
                have HLO5 := Aside0.mk (show (OS.length + 1) * 16 ≤ 140737488355328 from by have := HOL.out; have := HK.out; omega)
                have hMd : commit_Knots.Mid w1 W9 W8.heap.size W8.heap.size (.slice AK KS.length ck) (.slice AO OS.length co) (.slice AP JS.length pc) n JS KS OS := ⟨Kd.R_below HRK.out (below_step HB8.out HD9.out), Kd.R_below HRO.out (below_step HB8.out HD9.out), HC9.out, Kd.R_lower (Kd.R_mono (Kd.R_bound HP9.out) (fun j hj => hj.2.1)) HB18.out.size, HB19.out, fun j hj => Nat.lt_of_lt_of_le (commit_visit.typed HRK.out j hj).2.1 HB8.out.size, HD9.out.size, Nat.le_refl _⟩
                have HMd := Aside0.mk hMd
                clear hMd
                go_wp2_with (first | ((with_reducible refine gate_dst (N := 100) rfl ?_); (try (refine gate_guard (by rfl) ?_; dsimp only)); refine M.wp_rec_load rfl 62 _ rfl W8.heap.size 62 [.int .i64 n, .slice AP JS.length pc] rfl HC9.out _ Tryd.underlying62 rfl commit_Knots.size62 ?_) | ((with_reducible refine gate_builtin (b := .append) (xs := #[.tmp 99, .tmp 101]) rfl ?_); at_builtin; refine Kd.R_append k62 (w0 := w1) w1.heap.size rfl (.tmp 99) (.tmp 101) 55 62 (.agg #[.int .i64 0, .slice none 0 0]) 32 rfl Tryd.underlying55 commit_Knots.i62 rfl (by decide) (by decide) (.slice AK KS.length ck) KS ⟨n, JS⟩ [.int .i64 n, .slice AP JS.length pc] (fun _ => True) _ rfl rfl HMd.out.pm HMd.out.okp (fun _ _ => trivial) HMd.out.rk HMd.out.low HMd.out.low.size HLK5.out ?_; intro v12 w12 ho hb hg hat; obtain ⟨A12, c12, rfl⟩ := Kd.R_slice ho; have hGt := HMd.out.app ho hb hg; have HGT := Aside0.mk hGt; have x0 := (HGT.out.low.cell (World.block_lt_of_cell? w1 _ HCX1.out)).trans HCX1.out; clear ho hb hg hat hGt) | ((with_reducible refine gate_builtin (b := .append) (xs := #[.tmp 103, .tmp 108]) rfl ?_); at_builtin; refine Kd.R_append Kd.string (w0 := w1) w1.heap.size rfl (.tmp 103) (.tmp 108) 22 9 (.string ByteArray.empty) 16 rfl Tryd.underlying22 pleachref35_Back.i9 rfl (by decide) (by decide) (.slice AO OS.length co) OS nm [.string nm] (fun _ => True) (fun _ => False) rfl rfl (by exact rfl) (fun _ hk => hk.elim) (fun _ _ => trivial) HGT.out.ro HGT.out.low HGT.out.low.size HLO5.out ?_; intro v13 w13 ho hb hg hat; obtain ⟨A13, c13, rfl⟩ := Kd.R_slice ho; have HR13 := Aside0.mk ho; have HB13 := Aside0.mk hb; have HK13 := Aside0.mk (commit_Knots.apart HGT.out.rk HGT.out.ro (by decide) hg); clear ho hb hg hat))
                go_roundg (ds.length + 1 - (k + 1))
                case measure => (refine Nat.lt_of_lt_of_le ?_ (Nat.le_of_eq hkq.out.symm); have := HKD.out; omega)
                case rel => exact ⟨k + 1, KS ++ [⟨n, JS⟩], OS ++ [nm], A12, A13, c12, c13, n, by simp, by simp, rfl, ⟨HKD.out⟩, ⟨rfl⟩, HBN, ⟨by rw [HTK.out, List.map_append, ← HKS.out]; simp [HKN.out]⟩, ⟨by rw [HTK.out, List.map_append, ← HOS.out]; simp [HNN.out]⟩, HB13, ⟨by simpa using HK13.out⟩, ⟨by simpa using HR13.out⟩⟩
          · obtain rfl : k = ds.length := by have := HK.out; omega
            have hnx := HSC2.out.none_ HBH.out (by rw [HDS.out]; exact Nat.le_refl _)
            subst hnx
            have HR := Aside0.mk (show commit_Knots.res s names = ([], [], 16) from by
              have hx : ¬ ns.Nodup := fun h => by
                have h2 := M.srt_nodup ns h
                rw [HDS.out, hnsl] at h2
                have := HKA.out
                have := HKL.out
                omega
              unfold commit_Knots.res
              simp only [HRES.out]
              rw [if_pos trivial, HNS.out, if_neg hx])
            go_wp2
            exact bodyPost_ret (v := .tuple #[.slice none 0 0, .slice none 0 0, .int .i64 16]) (by simp [results, Tryd.results28, go_sem]) rfl (by rw [HR.out]; exact ⟨_, _, rfl, Kd.R_nil _ _ _ _ _, Kd.R_nil _ _ _ _ _, below_step HB1.out HB18.out⟩)
    · have hk1 := HKL.out
      have hk2 := HK.out
      obtain rfl : k = ds.length := by omega
      have HR := Aside0.mk (show commit_Knots.res s names = (ds.map (commit_Knots.kn s al), ds.map (commit_Knots.nm nl al), 0) from by
        have hx : ns.Nodup := Decidable.byContradiction fun h => by
          have h2 := M.srt_less ns h
          rw [HDS.out, hnsl] at h2
          omega
        unfold commit_Knots.res
        simp only [HRES.out]
        rw [if_pos trivial, HNS.out, if_pos hx, HDS.out])
      have p2 : decide ((KS.length : Int) < (al.length : Int)) = false := decide_eq_false (by omega)
      have p7 : (al.length : Int) ≤ (KS.length : Int) := by omega
      have hq1 := HKS.out
      have hq2 := HOS.out
      rw [List.take_length] at hq1 hq2
      have HQ1 := Aside0.mk hq1
      have HQ2 := Aside0.mk hq2
      clear hk1 hk2 hka hq1 hq2
      go_wp2
      exact bodyPost_ret (v := .tuple #[.slice AK KS.length ck, .slice AO OS.length co, .int .i64 0]) (by simp [results, Tryd.results28, go_sem]) rfl (by rw [HR.out, ← HQ1.out, ← HQ2.out]; exact ⟨_, _, rfl, Kd.R_lower HRK.out HB1.out.size, Kd.R_lower HRO.out HB1.out.size, below_step HB1.out HB7.out⟩)
end
end Go.Proofs.YtikdbklmhjlfoaaDoor.ECommitKnots
