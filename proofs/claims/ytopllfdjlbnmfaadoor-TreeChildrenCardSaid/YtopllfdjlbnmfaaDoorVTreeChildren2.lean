-- Laid by this session's own program (wip/tools/fold.py): this session's texts, cut to what the claim names and put together; Lean checks it.
import Derived.Test.YtopllfdjlbnmfaaDoorVTreeChildren1
import Derived.Test.YtopllfdjlbnmfaaDoorXTreeChildren1
namespace Go.Proofs.YtopllfdjlbnmfaaDoor.ETreeChildren
open Go.RowKit Go.Proofs.YtopllfdjlbnmfaaDoorW.PrintWords Go.Proofs.YtopllfdjlbnmfaaDoorW.PrintLast Go.Proofs.YtopllfdjlbnmfaaDoorW.PrintMore
attribute [local go_sem] M.run_leq M.run_gtr M.run_geq max2_int min2_int max_two min_two max_three min_three max_four min_four
set_option linter.unusedVariables false
set_option linter.unusedSimpArgs false
theorem sha_text.i82 : (Tryd.prog.info? 142).map (·.size) = some 8 := by kernel_rfl
theorem sha_text.idx (xs : List Int) (hl : xs.length = 8) (j : Nat) (h : j < 8) (W : World) : (Instr.index 142 (.agg (nums .u32 xs).toArray) (.int .i64 (j : Int))).run Tryd.prog W = .ok (.int .u32 (xs.getD j 0)) W := by
 have hs : (sizeOf 95).run Tryd.prog W = .ok 1 W := by kernel_rfl
 have hk : (0 : Int) ≤ (j : Int) ∧ (j : Int) < ((8 : Nat) : Int) := by omega
 have hn := M.nums_get .u32 xs j (by omega)
 rw [List.getD_eq_getElem?_getD] at hn ⊢
 simp [Instr.index, run_underlying Tryd.underlying142, asIntOf, hk, hs, hn, h, go_sem]
def sha_text.row : List Nat → List Int
  | [] => []
  | x :: l => [((x / 16777216 % 256 : Nat) : Int), ((x / 65536 % 256 : Nat) : Int), ((x / 256 % 256 : Nat) : Int), ((x % 256 : Nat) : Int)] ++ sha_text.row l
theorem sha_text.row_app (a b : List Nat) : sha_text.row (a ++ b) = sha_text.row a ++ sha_text.row b := by
 induction a with
 | nil => rfl
 | cons x a ih => rw [List.cons_append, sha_text.row, sha_text.row, ih, List.append_assoc]
theorem sha_text.row_len (a : List Nat) : (sha_text.row a).length = 4 * a.length := by
 induction a with
 | nil => rfl
 | cons x a ih => rw [sha_text.row, List.length_append, ih]; simp; omega
theorem sha_text.row_str (a : List Nat) : strOfNums (sha_text.row a) = M.sb (M.shaText a) := by
 have h : ∀ a : List Nat, sha_text.row a = ((M.shaText a).map UInt8.toNat).map fun (n : Nat) => (n : Int) := by
  intro a
  induction a with
  | nil => rfl
  | cons x a ih =>
   rw [sha_text.row, ih]
   simp [M.shaText]
 have e := M.strOfNums_nat ((M.shaText a).map UInt8.toNat)
 rw [← h] at e
 rw [← M.sb_bs (strOfNums (sha_text.row a)), e]
 congr 1
 rw [List.map_map]
 conv => rhs; rw [← List.map_id (M.shaText a)]
 exact List.map_congr_left fun x _ => by simp
theorem sha_text.four (W : World) (e : TypeId) (a b c d : Int) : ReadsInt (W.alloc (.cells #[.int .u8 a, .int .u8 b, .int .u8 c, .int .u8 d] e)) .u8 (some ⟨W.heap.size, 0, none⟩) 4 [a, b, c, d] := by
 have h := own_lit W W.heap.size e .u8 [a, b, c, d] (Nat.le_refl _) (by simp)
 obtain ⟨A, c, e1, hr⟩ := own_reads h
 injection e1 with e1
 subst e1
 exact hr
set_option maxHeartbeats 8000000 in
set_option maxRecDepth 100000 in
theorem sha_text.calls (s : List Nat) (w : World) (hs : s.length = 8) (hlt : ∀ x ∈ s, x < 4294967296) :
    Calls Tryd.prog 90 #[.agg (nums .u32 (M.nums32 s)).toArray] w fun e w' => e = .returned (.string (M.sb (M.shaText s))) ∧ Below w.heap.size w w' := by
 have HS := Aside0.mk hs
 have HLT := Aside0.mk hlt
 have HB := Aside0.mk (Below.refl w.heap.size w)
 have H8 := Aside0.mk (show (M.nums32 s).length = 8 from by unfold M.nums32; rw [List.length_map]; exact hs)
 have hmk : ∀ W : World, (Instr.makeSlice 101 (.int .i64 0) (.int .i64 32)).run Tryd.prog W = .ok (.slice (some ⟨W.heap.size, 0, none⟩) 0 32) (W.alloc (.cells (madeCells #[.int .u8 0] 32) 5)) := by
  intro W
  obtain ⟨i0, hi, hz⟩ := Option.map_eq_some_iff.1 info5
  simp only [Prod.mk.injEq] at hz
  have := run_make (w := W) 101 5 i0 (.int .u8 0) Tryd.underlying101 hi hz.1 .i64 .i64 0 32 (by decide) (by decide) (by rw [hz.2.2]; decide) (by decide)
  rw [hz.2.1] at this
  exact this
 clear hs hlt
 go_enter Tryd.func90, Tryd.ntmps90
 go_wp2_with (first | ((with_reducible refine gate_dst (N := 1) rfl ?_); refine M.bx 1 142 ((nums .u32 (M.nums32 s)).toArray) ?_; intro gb hg w2 hbox hb; subst hg; have HA2 := Aside0.mk (show M.arr w2 w.heap.size 142 .u32 (M.nums32 s) from hbox); have n1_ := Aside0.mk (below_step HB.out hb); clear HB; have HB := n1_; clear n1_ hb hbox; have L1 := Aside0.mk (M.arr_lt HA2.out)) | ((with_reducible refine gate_dst (N := 7) rfl ?_); refine M.wp_arr_load rfl 142 _ rfl w.heap.size 142 .u32 (M.nums32 s) rfl (M.arr_alloc HA2.out _) _ Tryd.underlying142 rfl (by rw [H8.out]; exact sha_text.i82) ?_))
 obtain ⟨g3, hg3⟩ : ∃ g, g = w2.heap.size := ⟨_, rfl⟩
 have hown := own_made w2 w.heap.size 5 .u8 32 (Nat.le_of_lt L1.out) (by decide)
 have HO3 := Aside0.mk (own_take (m := 0) hown (by decide))
 have HB3 := Aside0.mk (below_alloc HB.out (.cells (madeCells #[.int .u8 0] 32) 5))
 have HA3 := Aside0.mk (M.arr_alloc HA2.out (.cells (madeCells #[.int .u8 0] 32) 5))
 clear hown HB HA2
 generalize w2.alloc (.cells (madeCells #[.int .u8 0] 32) 5) = w3 at HO3 HB3 HA3 ⊢
 go_loopw [3, 8] (fun v3 v8 wr => ∃ j : Nat, v8 = .int .i64 (j : Int) ∧ j ≤ 8 ∧ Aside0 (wr.ownsRow w.heap.size 5 1 v3 (sha_text.row (s.take j)).length (nums .u8 (sha_text.row (s.take j)))) ∧ Aside0 (Below w.heap.size w wr)) (fun _ v8 _ => 8 - (intOf v8).toNat)
 case atStart => exact ⟨0, rfl, Nat.zero_le _, HO3, HB3⟩
 case round =>
  clear HO3 HB3 HA3
  obtain ⟨j, rfl, hj, HO, HB⟩ := hrel
  by_cases hlt : j < 8
  ·have hlt' : j < s.length := by rw [HS.out]; exact hlt
   have hix := sha_text.idx (M.nums32 s) H8.out j hlt
   have hb := HLT.out _ (List.getElem_mem hlt')
   rw [show (M.nums32 s).getD j 0 = ((s[j] : Nat) : Int) from by unfold M.nums32; simp [List.getD, hlt']] at hix
   have HL := Aside0.mk (show (sha_text.row (s.take j)).length ≤ 32 from by rw [sha_text.row_len, List.length_take]; omega)
   have HX := Aside0.mk (show sha_text.row (s.take j) ++ [((s[j] : Nat) : Int) / 16777216 % 256, ((s[j] : Nat) : Int) / 65536 % 256, ((s[j] : Nat) : Int) / 256 % 256, ((s[j] : Nat) : Int) % 256] = sha_text.row (s.take (j + 1)) from by
    rw [List.take_succ_eq_append_getElem hlt', sha_text.row_app]
    rfl)
   generalize s[j] = x at hix hb HX
   generalize sha_text.row (s.take j) = xs at HO HL HX
   have g0 : (0 : Int) ≤ (j : Int) := by omega
   have g1 : (j : Int) < 8 := by omega
   obtain ⟨A3, c3, rfl⟩ := own_slice HO.out
   clear hb
   go_wp2_with (at_builtin; refine print_append_row (w0 := w) w.heap.size rfl _ _ 101 5 .u8 1 rfl Tryd.underlying101 info5 (by decide) _ xs [(x : Int) / 16777216 % 256, (x : Int) / 65536 % 256, (x : Int) / 256 % 256, (x : Int) % 256] (some ⟨wr.heap.size, 0, none⟩) 4 4 rfl rfl (HO.out.alloc _) ?hrd (below_alloc HB.out _) ?hbs ?hln ?_; (case hrd => exact sha_text.four wr 5 _ _ _ _); (case hbs => have := HB.out.size; simp; omega); (case hln => have := HL.out; omega); intro v4 w4 hO4 hB4 hg4 hat4; rw [HX.out] at hO4; have HO4 := Aside0.mk hO4; have HB4 := Aside0.mk hB4; clear hO4 hB4 hg4 hat4)
   go_roundw
   case rel => exact ⟨j + 1, by go_num, by omega, HO4, HB4⟩
   case measure => simp [intOf]; omega
  ·obtain rfl : j = 8 := by omega
   have HE := Aside0.mk (show strOfNums (sha_text.row (s.take 8)) = M.sb (M.shaText s) from by
    rw [List.take_of_length_le (Nat.le_of_eq HS.out), sha_text.row_str])
   have hconv := own_string (P := Tryd.prog) (src := 101) (dst := 9) (e := 5) (xs := sha_text.row (s.take 8)) Tryd.underlying101 (by kernel_rfl) (by kernel_rfl) HO.out
   rw [HE.out] at hconv
   go_wp2
   go_ret
   exact ⟨rfl, HB.out⟩
def sha_Hash_Sum.ns (l : List UInt8) : List Int := l.map fun x => (x.toNat : Int)
theorem sha_Hash_Sum.foot_at {w : World} {base n c : Nat} {A : Option Addr} {l : List UInt8} (h : w.ownsRow base 5 1 (.slice A n c) n (nums .u8 (sha_Hash_Sum.ns l))) : (∀ g, w.heap.size ≤ g → M.foot w g A n l) ∧ n ≤ c := by
 refine ⟨fun g hg W' hk => ?_, ?_⟩
 ·have ho := hk.own h (fun e => by
   rcases h.2 with ⟨e1, _⟩ | ⟨g1, _, _, e1, _, e2, _⟩
   ·rw [e1] at e; cases e
   ·rw [e1] at e
    injection e with e
    have := M.lt_blk e2
    have : g1 = g := e
    omega) (by cases hv : Value.ownBlock (.slice A n c) <;> simp)
  obtain ⟨A', c', e, hr⟩ := own_reads ho
  injection e with e1
  subst e1
  exact hr
 ·rcases h.2 with ⟨e, _⟩ | ⟨_, _, _, e, _, _, h1, _⟩
  ·injection e with _ e1 e2
   omega
  ·injection e with _ e1 e2
   omega
theorem sha_Hash_Sum.txt (p0 p1 p2 p3 p4 p5 p6 p7 : Nat) (w : World) (hlt : ∀ x ∈ [p0, p1, p2, p3, p4, p5, p6, p7], x < 4294967296) :
    Calls Tryd.prog 90 #[.agg #[.int .u32 (p0 : Int), .int .u32 (p1 : Int), .int .u32 (p2 : Int), .int .u32 (p3 : Int), .int .u32 (p4 : Int), .int .u32 (p5 : Int), .int .u32 (p6 : Int), .int .u32 (p7 : Int)]] w fun e w' => e = .returned (.string (M.sb (M.shaText [p0, p1, p2, p3, p4, p5, p6, p7]))) ∧ Below w.heap.size w w' := sha_text.calls [p0, p1, p2, p3, p4, p5, p6, p7] w rfl hlt
theorem sha_Hash_Sum.key (r0 : List UInt8) (N i : Nat) (h : i < 8) : sha_Hash_Sum.ns (r0 ++ (M.be8 N).take i) ++ [((N : Int) / 2 ^ (56 - 8 * i) % 256)] = sha_Hash_Sum.ns (r0 ++ (M.be8 N).take (i + 1)) := by
 obtain rfl | rfl | rfl | rfl | rfl | rfl | rfl | rfl : i = 0 ∨ i = 1 ∨ i = 2 ∨ i = 3 ∨ i = 4 ∨ i = 5 ∨ i = 6 ∨ i = 7 := by omega
 all_goals simp [sha_Hash_Sum.ns, M.be8]
set_option maxHeartbeats 8000000 in
set_option maxRecDepth 100000 in
theorem sha_Hash_Sum.calls (g y0 y1 y2 y3 y4 y5 y6 y7 m c n : Nat) (A : Option Addr) (l : List UInt8) (w : World) (hH : M.hash w g 144 y0 y1 y2 y3 y4 y5 y6 y7 (.slice A m c) (n : Int)) (hT : M.stab w) (hx : ∀ x ∈ [y0, y1, y2, y3, y4, y5, y6, y7], x < 4294967296) (hF : ReadsInt w .u8 A m (sha_Hash_Sum.ns l)) (hc : m ≤ c) (hm : m < 64) (hn : n ≤ 1000000000000) :
    Calls Tryd.prog 73 #[.pointer (some ⟨g, 0, none⟩)] w fun e w' => e = .returned (.string (M.sb (M.shaText (M.eat [y0, y1, y2, y3, y4, y5, y6, y7] (M.padlast l n) ((M.padlast l n).length / 64))))) ∧ Below w.heap.size w w' := by
 have c8 : w.cell? ⟨g, 8, none⟩ = some (.slice A m c) := M.blk_cell hH 8 _ rfl
 have HH := Aside0.mk hH
 have HGL := Aside0.mk (M.lt_blk hH)
 have HT := Aside0.mk hT
 have HX := Aside0.mk hx
 have HF := Aside0.mk hF
 have hml : (sha_Hash_Sum.ns l).length = m := hF.1
 have HB := Aside0.mk (Below.refl w.heap.size w)
 clear hH hT hx hF
 go_enter Tryd.func73, Tryd.ntmps73
 have c8b : (w.alloc (.cells #[] 5)).cell? ⟨g, 8, none⟩ = some (.slice A m c) := ((below_alloc HB.out (.cells #[] 5)).cell (p := ⟨g, 8, none⟩) HGL.out).trans c8
 have HO1 := Aside0.mk (own_lit w w.heap.size 5 .u8 [] (Nat.le_refl _) (by decide))
 have HML := Aside0.mk (show l.length = m from by rw [← hml]; simp [ns])
 have n1 : ns l ++ [128] = ns (l ++ [128] ++ List.replicate 0 0) := by simp [ns]
 have HN1 := Aside0.mk n1
 clear n1 hml
 go_wp2_with (first | (go_at_call 88; (with_reducible refine (sha_Hash_there.calls g y0 y1 y2 y3 y4 y5 y6 y7 _ _ _ HH.out).mono ?_); rintro e w1 ⟨rfl, rfl⟩) | (at_builtin; refine print_append_row (w0 := w) w.heap.size rfl (.tmp 10) (.tmp 14) 101 5 .u8 1 rfl Tryd.underlying101 info5 (by decide) _ [] (ns l) A m c rfl rfl HO1.out (HF.out.allocS _) (below_alloc HB.out _) (by simp) (by simp; omega) ?_; intro v2 w2 hown hb2 hg2 hat2; have HO2 := Aside0.mk hown; have HB2 := Aside0.mk hb2; clear hown hb2 hg2 hat2) | (at_builtin; refine print_append_num (w0 := w) w.heap.size rfl (.tmp 16) (.tmp 17) 101 5 .u8 1 rfl Tryd.underlying101 info5 (by decide) _ (ns l) 128 rfl rfl HO2.out HB2.out HB2.out.size (by simp [ns]; have := HML.out; omega) ?_; intro v3 w3 hown hb3 hg3 hat3; rw [HN1.out] at hown; have HO3 := Aside0.mk hown; have HB3 := Aside0.mk hb3; clear hown hb3 hg3 hat3 HO2 HB2))
 go_loopw [3] (fun v3 wr => ∃ j : Nat, j ≤ M.padz l.length ∧ Aside0 (wr.ownsRow w.heap.size 5 1 v3 (l.length + 1 + j) (nums .u8 (ns (l ++ [128] ++ List.replicate j 0)))) ∧ Aside0 (Below w.heap.size w wr)) (fun v3 _ => match v3 with | .slice _ n _ => l.length + 1 + M.padz l.length - n | _ => 0)
 case atStart => exact ⟨0, Nat.zero_le _, ⟨by have := HO3.out; simpa [ns] using this⟩, HB3⟩
 case round =>
  clear HO3 HB3 c8b HB
  obtain ⟨j, hj, HO, HB⟩ := hrel
  obtain ⟨A3, c3, rfl⟩ := own_slice HO.out
  have hp := M.padz_lt l.length
  have hpa := M.padz_at l.length j hj
  obtain ⟨q, hq⟩ : ∃ q, q = l.length + 1 + j := ⟨_, rfl⟩
  rw [← hq] at HO hpa ⊢
  have hq63 : q ≤ 1000 := by have := HML.out; omega
  have hmod : (q : Int).tmod 64 = ((q % 64 : Nat) : Int) := by rw [Int.tmod_eq_emod_of_nonneg (by omega)]; omega
  have HQ := Aside0.mk hq
  clear hq
  by_cases hlt : j = M.padz l.length
  ·have hd : ((q : Int) % 64 = 56) := by have := hpa.2 hlt; omega
   have c9_ : wr.cell? ⟨g, 9, none⟩ = some (.int .i64 (n : Int)) := (HB.out.cell (p := ⟨g, 9, none⟩) HGL.out).trans (M.blk_cell HH.out 9 _ rfl)
   have HQP := Aside0.mk (show (l ++ [128] ++ List.replicate j 0).length = q from by rw [HQ.out]; simp; omega)
   have HPL := Aside0.mk (show M.padlast l n = l ++ [128] ++ List.replicate j 0 ++ M.be8 (8 * n) from by rw [hlt]; rfl)
   generalize l ++ [128] ++ List.replicate j 0 = r0 at HO HQP HPL
   clear hpa hlt hj hp hmod
   go_wp2
   obtain ⟨N, hN⟩ : ∃ N : Nat, N = 8 * n := ⟨_, rfl⟩
   have hN' : (n : Int) * 8 = (N : Int) := by omega
   rw [hN']
   rw [← hN] at HPL
   have hne : ((q : Int) % 64 != 56) = false := by simp [hd]
   try rw [hne]
   clear hN hN' c9_ hd hne
   go_loopw [3, 32] (fun v3 v32 wq => ∃ i : Nat, v32 = .int .i64 (i : Int) ∧ i ≤ 8 ∧ Aside0 (wq.ownsRow w.heap.size 5 1 v3 (q + i) (nums .u8 (ns (r0 ++ (M.be8 N).take i)))) ∧ Aside0 (Below w.heap.size w wq)) (fun _ v32 _ => 8 - (intOf v32).toNat)
   case atStart => exact ⟨0, rfl, Nat.zero_le _, ⟨by have := HO.out; simpa using this⟩, HB⟩
   case round =>
    clear HO HB
    obtain ⟨i, rfl, hi, HO, HB⟩ := hrel
    obtain ⟨A4, c4, rfl⟩ := own_slice HO.out
    by_cases hlt : i < 8
    ·have hb1 := sha_Hash_Sum.key r0 N i hlt
     have HB1 := Aside0.mk hb1
     have HLn := Aside0.mk (show (ns (r0 ++ (M.be8 N).take i)).length = q + i from by have := HO.out.1; simpa [nums] using this)
     have HO' := Aside0.mk (show wr.ownsRow w.heap.size 5 1 (.slice A4 (q + i) c4) (ns (r0 ++ (M.be8 N).take i)).length (nums .u8 (ns (r0 ++ (M.be8 N).take i))) from by rw [HLn.out]; exact HO.out)
     clear hb1
     generalize ns (r0 ++ (M.be8 N).take i) = xs at HB1 HLn HO'
     go_wp2_with ((at_builtin; refine print_append_num (w0 := w) w.heap.size rfl (.tmp 35) (.tmp 42) 101 5 .u8 1 rfl Tryd.underlying101 info5 (by decide) _ xs ((N : Int) / 2 ^ (56 - 8 * i) % 256) rfl rfl HO'.out HB.out HB.out.size (by rw [HLn.out]; omega) ?_; intro v5 w5 hown hb5 hg5 hat5; have HO5 := Aside0.mk (show w5.ownsRow w.heap.size 5 1 v5 (q + (i + 1)) (nums .u8 (ns (r0 ++ (M.be8 N).take (i + 1)))) from by rw [List.length_append, HLn.out, HB1.out] at hown; exact hown); have HB5 := Aside0.mk hb5; clear hown hb5 hg5 hat5))
     go_roundw
     case rel => exact ⟨i + 1, by go_num, by omega, HO5, HB5⟩
     case measure => simp [intOf]; omega
    ·obtain rfl : i = 8 := by omega
     have HLL := Aside0.mk (show r0 ++ (M.be8 N).take 8 = M.padlast l n from by rw [HPL.out]; rfl)
     rw [HLL.out] at HO
     have hLlen : (M.padlast l n).length = q + 8 := by rw [HPL.out, List.length_append, HQP.out]; rfl
     have hL64 := M.padlast_len l n
     have HLT := Aside0.mk HO.out
     obtain ⟨hA4, hcap4⟩ := sha_Hash_Sum.foot_at HO.out
     have c0_ : wr.cell? ⟨g, 0, none⟩ = some (.int .u32 (y0 : Int)) := (HB.out.cell (p := ⟨g, 0, none⟩) HGL.out).trans (M.blk_cell HH.out 0 _ rfl)
     have c1_ : wr.cell? ⟨g, 1, none⟩ = some (.int .u32 (y1 : Int)) := (HB.out.cell (p := ⟨g, 1, none⟩) HGL.out).trans (M.blk_cell HH.out 1 _ rfl)
     have c2_ : wr.cell? ⟨g, 2, none⟩ = some (.int .u32 (y2 : Int)) := (HB.out.cell (p := ⟨g, 2, none⟩) HGL.out).trans (M.blk_cell HH.out 2 _ rfl)
     have c3_ : wr.cell? ⟨g, 3, none⟩ = some (.int .u32 (y3 : Int)) := (HB.out.cell (p := ⟨g, 3, none⟩) HGL.out).trans (M.blk_cell HH.out 3 _ rfl)
     have c4_ : wr.cell? ⟨g, 4, none⟩ = some (.int .u32 (y4 : Int)) := (HB.out.cell (p := ⟨g, 4, none⟩) HGL.out).trans (M.blk_cell HH.out 4 _ rfl)
     have c5_ : wr.cell? ⟨g, 5, none⟩ = some (.int .u32 (y5 : Int)) := (HB.out.cell (p := ⟨g, 5, none⟩) HGL.out).trans (M.blk_cell HH.out 5 _ rfl)
     have c6_ : wr.cell? ⟨g, 6, none⟩ = some (.int .u32 (y6 : Int)) := (HB.out.cell (p := ⟨g, 6, none⟩) HGL.out).trans (M.blk_cell HH.out 6 _ rfl)
     have c7_ : wr.cell? ⟨g, 7, none⟩ = some (.int .u32 (y7 : Int)) := (HB.out.cell (p := ⟨g, 7, none⟩) HGL.out).trans (M.blk_cell HH.out 7 _ rfl)
     have a82 := Tryd.isAgg82
     have z82 := Tryd.sizeOf82
     obtain ⟨Lq, hLq⟩ : ∃ L, L = M.padlast l n := ⟨_, rfl⟩
     rw [← hLq] at hLlen hL64 hA4
     have HLQ := Aside0.mk hLq
     clear hLq
     clear HO HPL HLL HLT HQP
     go_wp2_with (((with_reducible refine gate_store (t := 142) (p := 6) (v := .tmp 48) rfl ?_); refine M.wp_arr_store rfl 142 _ _ rfl wr.heap.size 142 .u32 (List.replicate 8 0) [(y0 : Int), (y1 : Int), (y2 : Int), (y3 : Int), (y4 : Int), (y5 : Int), (y6 : Int), (y7 : Int)] rfl rfl (M.arr_new wr 142 .u32 (List.replicate 8 0)) rfl sha_text.i82 ?_; intro w6 hA6 hF6 hB6 hz6; have HA6 := Aside0.mk (show M.arr w6 wr.heap.size 142 .u32 (M.nums32 [y0, y1, y2, y3, y4, y5, y6, y7]) from hA6); have HB6 := Aside0.mk (hB6 _ _ HB.out.size (below_alloc HB.out _)); have HF6 := Aside0.mk (M.foot_step (hA4 wr.heap.size (Nat.le_refl _)) (show KeepBut wr w6 wr.heap.size none from ⟨by rw [hz6]; simp, fun i hi hne _ => (hF6 i hne).trans (Below.heap_alloc _ _ _ hi)⟩)); clear hA6 hF6 hB6 hz6))
     dsimp only [Act.put]
     try rw [show ((8 : Nat) : Int) = 8 from rfl]
     obtain ⟨g6, hg6⟩ : ∃ g, g = wr.heap.size := ⟨_, rfl⟩
     have hgb : w.heap.size ≤ g6 := by rw [hg6]; exact HB.out.size
     rw [← hg6] at HA6 HF6 ⊢
     clear hA4 c0_ c1_ c2_ c3_ c4_ c5_ c6_ c7_ hg6 HB
     have HGB := Aside0.mk hgb
     clear hgb
     go_loopw [3] (fun v3 wq => ∃ (k p0 p1 p2 p3 p4 p5 p6 p7 m' : Nat) (A' : Option Addr) (c' : Nat), v3 = .slice A' m' c' ∧ 64 * k + m' = Lq.length ∧ m' ≤ c' ∧ Aside0 (M.foot wq g6 A' m' (Lq.drop (64 * k))) ∧ Aside0 (M.arr wq g6 142 .u32 (M.nums32 [p0, p1, p2, p3, p4, p5, p6, p7])) ∧ Aside0 (M.eat [y0, y1, y2, y3, y4, y5, y6, y7] Lq k = [p0, p1, p2, p3, p4, p5, p6, p7]) ∧ Aside0 (Below w.heap.size w wq)) (fun v3 _ => match v3 with | .slice _ n _ => n | _ => 0)
     case atStart => exact ⟨0, y0, y1, y2, y3, y4, y5, y6, y7, q + 8, A4, c4, rfl, by omega, hcap4, HF6, HA6, ⟨rfl⟩, HB6⟩
     case round =>
      clear HF6 HA6 HB6 hcap4
      obtain ⟨k, p0, p1, p2, p3, p4, p5, p6, p7, m', A', c', rfl, hk, hcc, HF, HA, HE, HB⟩ := hrel
      by_cases hpos : 0 < m'
      ·have hm64 : 64 ≤ m' := by omega
       have hd : decide (0 < (m' : Int)) = true := decide_eq_true (by omega)
       obtain ⟨ad, rfl, _⟩ := (M.foot_now HF.out).2.2 hpos
       have c0_ : wr.cell? ⟨g6, 0, none⟩ = some (.int .u32 (p0 : Int)) := M.arr_cell HA.out 0 (by simp [M.nums32])
       have c1_ : wr.cell? ⟨g6, 1, none⟩ = some (.int .u32 (p1 : Int)) := M.arr_cell HA.out 1 (by simp [M.nums32])
       have c2_ : wr.cell? ⟨g6, 2, none⟩ = some (.int .u32 (p2 : Int)) := M.arr_cell HA.out 2 (by simp [M.nums32])
       have c3_ : wr.cell? ⟨g6, 3, none⟩ = some (.int .u32 (p3 : Int)) := M.arr_cell HA.out 3 (by simp [M.nums32])
       have c4_ : wr.cell? ⟨g6, 4, none⟩ = some (.int .u32 (p4 : Int)) := M.arr_cell HA.out 4 (by simp [M.nums32])
       have c5_ : wr.cell? ⟨g6, 5, none⟩ = some (.int .u32 (p5 : Int)) := M.arr_cell HA.out 5 (by simp [M.nums32])
       have c6_ : wr.cell? ⟨g6, 6, none⟩ = some (.int .u32 (p6 : Int)) := M.arr_cell HA.out 6 (by simp [M.nums32])
       have c7_ : wr.cell? ⟨g6, 7, none⟩ = some (.int .u32 (p7 : Int)) := M.arr_cell HA.out 7 (by simp [M.nums32])
       have hblk : ((Lq.drop (64 * k)).take 64).length = 64 := by simp; omega
       have HBL := Aside0.mk hblk
       have hrd := (M.foot_now HF.out).take_ 64 hm64
       rw [← List.map_take] at hrd
       have HRD := Aside0.mk hrd
       have HEn := Aside0.mk (show M.eat [y0, y1, y2, y3, y4, y5, y6, y7] Lq (k + 1) = M.turned [p0, p1, p2, p3, p4, p5, p6, p7] ((Lq.drop (64 * k)).take 64) from by rw [M.eat, HE.out])
       have HPL := Aside0.mk (show ∀ x ∈ [p0, p1, p2, p3, p4, p5, p6, p7], x < 4294967296 from by
        rw [← HE.out]
        cases k with
        | zero => exact HX.out
        | succ k => exact sha_Hash_Put.lt _ _)
       have HTr := Aside0.mk (M.stab_below HT.out HB.out (M.stab_lt HT.out))
       have hc64 : 64 ≤ c' := by omega
       clear hblk hrd hd
       go_wp2
       go_region_with (go_at_call 89; (with_reducible refine (sha_Hash_Put.turn ad c' p0 p1 p2 p3 p4 p5 p6 p7 ((Lq.drop (64 * k)).take 64) _ HPL.out HBL.out ?hr hc64 ?ht).mono ?_); (case hr => exact HRD.out); (case ht => exact HTr.out); rintro e w7 ⟨z0, z1, z2, z3, z4, z5, z6, z7, hz, rfl, hb7⟩; have HZ := Aside0.mk hz; have HA7 := Aside0.mk (show M.arr w7 g6 142 .u32 (M.nums32 [p0, p1, p2, p3, p4, p5, p6, p7]) from M.arr_below (M.arr_drew HA.out) hb7); have HB7 := Aside0.mk (below_step (below_drew1 HB.out) hb7); have HF7 := Aside0.mk (M.foot_step HF.out (KeepBut.of_below hb7 g6 none)); have e0_ : w7.cell? ⟨g6, 0, none⟩ = some (.int .u32 (p0 : Int)) := M.arr_cell HA7.out 0 (by simp [M.nums32]); have g0_ := M.arr_free HA7.out 0; have e1_ : w7.cell? ⟨g6, 1, none⟩ = some (.int .u32 (p1 : Int)) := M.arr_cell HA7.out 1 (by simp [M.nums32]); have g1_ := M.arr_free HA7.out 1; have e2_ : w7.cell? ⟨g6, 2, none⟩ = some (.int .u32 (p2 : Int)) := M.arr_cell HA7.out 2 (by simp [M.nums32]); have g2_ := M.arr_free HA7.out 2; have e3_ : w7.cell? ⟨g6, 3, none⟩ = some (.int .u32 (p3 : Int)) := M.arr_cell HA7.out 3 (by simp [M.nums32]); have g3_ := M.arr_free HA7.out 3; have e4_ : w7.cell? ⟨g6, 4, none⟩ = some (.int .u32 (p4 : Int)) := M.arr_cell HA7.out 4 (by simp [M.nums32]); have g4_ := M.arr_free HA7.out 4; have e5_ : w7.cell? ⟨g6, 5, none⟩ = some (.int .u32 (p5 : Int)) := M.arr_cell HA7.out 5 (by simp [M.nums32]); have g5_ := M.arr_free HA7.out 5; have e6_ : w7.cell? ⟨g6, 6, none⟩ = some (.int .u32 (p6 : Int)) := M.arr_cell HA7.out 6 (by simp [M.nums32]); have g6_ := M.arr_free HA7.out 6; have e7_ : w7.cell? ⟨g6, 7, none⟩ = some (.int .u32 (p7 : Int)) := M.arr_cell HA7.out 7 (by simp [M.nums32]); have g7_ := M.arr_free HA7.out 7; clear hz hb7)
       all_goals
        have HA8 := Aside0.mk (M.arr_set8 HA7.out z0 z1 z2 z3 z4 z5 z6 z7)
        have HF8 := Aside0.mk (M.foot_step HF7.out (M.keep_set8 w7 g6 z0 z1 z2 z3 z4 z5 z6 z7))
        have HB8 := Aside0.mk (M.below_set8 HB7.out g6 z0 z1 z2 z3 z4 z5 z6 z7 HGB.out)
        clear e0_ e1_ e2_ e3_ e4_ e5_ e6_ e7_ g0_ g1_ g2_ g3_ g4_ g5_ g6_ g7_ HA7 HF7 HB7 c0_ c1_ c2_ c3_ c4_ c5_ c6_ c7_ HA HF HB HRD HTr
        generalize ((((((((w7.setCell ⟨g6, 0, none⟩ (.int .u32 (z0 : Int))).setCell ⟨g6, 1, none⟩ (.int .u32 (z1 : Int))).setCell ⟨g6, 2, none⟩ (.int .u32 (z2 : Int))).setCell ⟨g6, 3, none⟩ (.int .u32 (z3 : Int))).setCell ⟨g6, 4, none⟩ (.int .u32 (z4 : Int))).setCell ⟨g6, 5, none⟩ (.int .u32 (z5 : Int))).setCell ⟨g6, 6, none⟩ (.int .u32 (z6 : Int))).setCell ⟨g6, 7, none⟩ (.int .u32 (z7 : Int))) = w8 at HA8 HF8 HB8 ⊢
        obtain ⟨i0, hi0, hi1⟩ := Option.map_eq_some_iff.1 info5
        simp only [Prod.mk.injEq] at hi1
        obtain ⟨A2, hcut, hrd2⟩ := print_cut (P := Tryd.prog) 101 5 .i64 Tryd.underlying101 hi0 hi1.2.1 (some ad) m' c' 64 hm64
        have hcut' : ∀ W : World, (Instr.slice 101 (.slice (some ad) m' c') (some (.int .i64 64)) none none).run Tryd.prog W = .ok (.slice A2 (m' - 64) (c' - 64)) W := hcut
        have HF9 := Aside0.mk (show M.foot w8 g6 A2 (m' - 64) (Lq.drop (64 * (k + 1))) from fun W' hk' => by
         have := hrd2 W' .u8 _ hcc (HF8.out W' hk')
         rw [← List.map_drop, List.drop_drop] at this
         rw [show 64 * (k + 1) = 64 * k + 64 from by omega]
         exact this)
        clear hcut hrd2 HF8 hi0 hi1
        go_wp2
        go_roundw
        case rel => exact ⟨k + 1, z0, z1, z2, z3, z4, z5, z6, z7, m' - 64, A2, c' - 64, rfl, by omega, by omega, HF9, HA8, ⟨by rw [HEn.out, HZ.out]⟩, HB8⟩
        case measure =>
         show m' - 64 < m'
         omega
      ·obtain rfl : m' = 0 := by omega
       have c0_ : wr.cell? ⟨g6, 0, none⟩ = some (.int .u32 (p0 : Int)) := M.arr_cell HA.out 0 (by simp [M.nums32])
       have c1_ : wr.cell? ⟨g6, 1, none⟩ = some (.int .u32 (p1 : Int)) := M.arr_cell HA.out 1 (by simp [M.nums32])
       have c2_ : wr.cell? ⟨g6, 2, none⟩ = some (.int .u32 (p2 : Int)) := M.arr_cell HA.out 2 (by simp [M.nums32])
       have c3_ : wr.cell? ⟨g6, 3, none⟩ = some (.int .u32 (p3 : Int)) := M.arr_cell HA.out 3 (by simp [M.nums32])
       have c4_ : wr.cell? ⟨g6, 4, none⟩ = some (.int .u32 (p4 : Int)) := M.arr_cell HA.out 4 (by simp [M.nums32])
       have c5_ : wr.cell? ⟨g6, 5, none⟩ = some (.int .u32 (p5 : Int)) := M.arr_cell HA.out 5 (by simp [M.nums32])
       have c6_ : wr.cell? ⟨g6, 6, none⟩ = some (.int .u32 (p6 : Int)) := M.arr_cell HA.out 6 (by simp [M.nums32])
       have c7_ : wr.cell? ⟨g6, 7, none⟩ = some (.int .u32 (p7 : Int)) := M.arr_cell HA.out 7 (by simp [M.nums32])
       have hkd : Lq.length / 64 = k := by omega
       have HPL := Aside0.mk (show ∀ x ∈ [p0, p1, p2, p3, p4, p5, p6, p7], x < 4294967296 from by
        rw [← HE.out]
        cases k with
        | zero => exact HX.out
        | succ k => exact sha_Hash_Put.lt _ _)
       go_wp2_with ((go_at_call 90; (with_reducible refine (sha_Hash_Sum.txt p0 p1 p2 p3 p4 p5 p6 p7 _ HPL.out).mono ?_); rintro e w9 ⟨rfl, hb9⟩))
       go_ret
       refine ⟨?_, below_step HB.out hb9⟩
       rw [← HLQ.out, hkd, HE.out]
       rfl
  ·have hd : ¬ ((q : Int) % 64 = 56) := by intro e; exact hlt (hpa.1 (by omega))
   have HLn := Aside0.mk (show (ns (l ++ [128] ++ List.replicate j 0)).length = q from by have := HO.out.1; simpa [nums] using this)
   have HO' := Aside0.mk (show wr.ownsRow w.heap.size 5 1 (.slice A3 q c3) (ns (l ++ [128] ++ List.replicate j 0)).length (nums .u8 (ns (l ++ [128] ++ List.replicate j 0))) from by rw [HLn.out]; exact HO.out)
   have HX1 := Aside0.mk (show ns (l ++ [128] ++ List.replicate j 0) ++ [0] = ns (l ++ [128] ++ List.replicate (j + 1) 0) from by
    rw [List.replicate_succ', ← List.append_assoc]; simp [ns])
   have hj1 : j + 1 ≤ M.padz l.length := by omega
   generalize ns (l ++ [128] ++ List.replicate j 0) = xs at HLn HO' HX1
   clear hpa hmod hp
   go_wp2_with ((at_builtin; refine print_append_num (w0 := w) w.heap.size rfl (.tmp 23) (.tmp 24) 101 5 .u8 1 rfl Tryd.underlying101 info5 (by decide) _ xs 0 rfl rfl HO'.out HB.out HB.out.size (by rw [HLn.out]; omega) ?_; intro v5 w5 hown hb5 hg5 hat5; rw [HX1.out] at hown; have HO5 := Aside0.mk hown; have HB5 := Aside0.mk hb5; clear hown hb5 hg5 hat5))
   obtain ⟨A5, c5, rfl⟩ := own_slice HO5.out
   go_roundw
   case rel =>
    have e : (ns (l ++ [128] ++ List.replicate (j + 1) 0)).length = l.length + 1 + (j + 1) := by simp [ns]; omega
    have h5 := HO5.out
    rw [e] at h5 ⊢
    exact ⟨j + 1, hj1, ⟨h5⟩, HB5⟩
   case measure => simp [ns]; have := HQ.out; omega
set_option maxHeartbeats 8000000 in
set_option maxRecDepth 100000 in
theorem sha_Sum.calls (ad : Addr) (c0 : Nat) (t : ByteArray) (w : World) (hT : M.stab w) (hr : w.cell? ad = some (.string t)) (hc : 1 ≤ c0) (hs : t.size ≤ 1000000000000) :
    Calls Tryd.prog 51 #[.slice (some ad) 1 c0] w fun e w' => e = .returned (.string (M.shaSum t)) ∧ Below w.heap.size w w' := by
 have HT := Aside0.mk hT
 have HR := Aside0.mk hr
 have hadl : ad.add 0 = ad := by unfold Addr.add; simp
 clear hT hr
 go_enter Tryd.func51, Tryd.ntmps51
 go_wp2_with ((go_at_call 71; (with_reducible refine (sha_New.calls _ HT.out).mono ?_); rintro e w1 ⟨g, rfl, hh, hb1, hgl⟩; have HH := Aside0.mk hh; have HB := Aside0.mk hb1; have HGL := Aside0.mk hgl; clear hh hb1 hgl))
 go_loopw [9] (fun v9 wr => Aside0 (Below w.heap.size w wr) ∧ ((v9 = .int .i64 0 ∧ Aside0 (M.hash wr g 144 0x6a09e667 0xbb67ae85 0x3c6ef372 0xa54ff53a 0x510e527f 0x9b05688c 0x1f83d9ab 0x5be0cd19 (.slice none 0 0) 0)) ∨ (v9 = .int .i64 1 ∧ ∃ (y0 y1 y2 y3 y4 y5 y6 y7 : Nat) (A : Option Addr) (m c : Nat), Aside0 (M.eat M.shaH (M.bs t) (t.size / 64) = [y0, y1, y2, y3, y4, y5, y6, y7]) ∧ Aside0 (M.hash wr g 144 y0 y1 y2 y3 y4 y5 y6 y7 (.slice A m c) (t.size : Int)) ∧ Aside0 (M.foot wr g A m ((M.bs t).drop (64 * (t.size / 64)))) ∧ m ≤ c ∧ 64 * (t.size / 64) + m = t.size))) (fun v9 _ => 1 - (intOf v9).toNat)
 case atStart => exact ⟨HB, .inl ⟨rfl, HH⟩⟩
 case round =>
  clear HB HH
  obtain ⟨HB, ⟨rfl, HH⟩ | ⟨rfl, y0, y1, y2, y3, y4, y5, y6, y7, A, m, c, HE, HH, HF, hmc, hm⟩⟩ := hrel
  ·have cS : wr.cell? ad = some (.string t) := (HB.out.cell (World.block_lt_of_cell? w _ HR.out)).trans HR.out
   have HTr := Aside0.mk (M.stab_below HT.out HB.out (M.stab_lt HT.out))
   have h1g : 1 < g := Nat.lt_of_lt_of_le (M.stab_lt HT.out) HGL.out
   go_wp2_with ((go_at_call 72; (with_reducible refine (sha_Hash_Put.calls g 0x6a09e667 0xbb67ae85 0x3c6ef372 0xa54ff53a 0x510e527f 0x9b05688c 0x1f83d9ab 0x5be0cd19 t _ HH.out HTr.out h1g (by decide) hs).mono ?_); rintro e w2 ⟨rfl, y0, y1, y2, y3, y4, y5, y6, y7, A, m, c, hE, hh2, hf2, hmc, hm, hb2⟩; have HE := Aside0.mk hE; have HH2 := Aside0.mk hh2; have HF2 := Aside0.mk hf2; have HB2 := Aside0.mk (HB.out.trans (hb2.mono HGL.out)); clear hE hh2 hf2 hb2))
   go_roundw
   case rel => exact ⟨HB2, .inr ⟨rfl, y0, y1, y2, y3, y4, y5, y6, y7, A, m, c, ⟨HE.out⟩, HH2, HF2, hmc, hm⟩⟩
   case measure => simp [intOf]
  ·have HTr := Aside0.mk (M.stab_below HT.out HB.out (M.stab_lt HT.out))
   have HYL := Aside0.mk (show ∀ x ∈ [y0, y1, y2, y3, y4, y5, y6, y7], x < 4294967296 from by
    rw [← HE.out]
    cases h : t.size / 64 with
    | zero => exact (by decide : ∀ x ∈ M.shaH, x < 4294967296)
    | succ k => exact sha_Hash_Put.lt _ _)
   have hrd : ReadsInt wr .u8 A m (sha_Hash_Sum.ns ((M.bs t).drop (64 * (t.size / 64)))) := M.foot_now HF.out
   have hm64 : m < 64 := by omega
   go_wp2_with ((go_at_call 73; (with_reducible refine (sha_Hash_Sum.calls g y0 y1 y2 y3 y4 y5 y6 y7 m c t.size A ((M.bs t).drop (64 * (t.size / 64))) _ HH.out HTr.out HYL.out hrd hmc hm64 hs).mono ?_); rintro e w2 ⟨rfl, hb2⟩))
   go_ret
   refine ⟨?_, below_step HB.out hb2⟩
   rw [← HE.out]
   rfl
theorem sha_Sum.lit (t : ByteArray) (w : World) (hT : M.stab w) (hs : t.size ≤ 1000000000000) :
    Calls Tryd.prog 51 #[.slice (some ⟨w.heap.size, 0, none⟩) 1 1] (w.alloc (.cells #[.string t] 9)) fun e w' => e = .returned (.string (M.shaSum t)) ∧ Below w.heap.size w w' := by
 refine (sha_Sum.calls ⟨w.heap.size, 0, none⟩ 1 t _ (M.stab_below hT (below_alloc (Below.refl w.heap.size w) _) (M.stab_lt hT)) (M.blk_cell (heap_alloc_new w _) 0 _ rfl) (Nat.le_refl _) hs).mono ?_
 rintro e w' ⟨rfl, hb⟩
 exact ⟨rfl, below_step (below_alloc (Below.refl w.heap.size w) _) hb⟩
section
variable {P : Program} {ops : Array Oper} {o : Oper} {a : Act} {Q : Exit → Act → World → Prop} {Kc : Act → World → Prop}
theorem shelf_Shelf_Put.app {w0 W : World} (base : Nat) (hw : Region.wanted o (yielded ops a.tmps) = true) (s x : Operand) (ho : o.op = .call { callee := .builtin .append, args := #[s, x], argTypes := #[22, 22] })
    (ht : P.underlying 22 = some (.slice 9)) (z : Value) (bytes : Nat) (hinfo : (P.info? 9).map (fun i => (i.zero, i.size, i.bytes)) = some (some z, 1, bytes)) (hz : z.cells.size = 1) (hb0 : 0 < bytes)
    (v : Value) (xs : List ByteArray) (y : ByteArray) (b : Nat) (hs : a.eval s = v) (hx : a.eval x = .slice (some ⟨b, 0, none⟩) 1 1) (HO : M.rowW W base v xs.length (xs.map .string)) (hy : W.cell? ⟨b, 0, none⟩ = some (.string y))
    (HB : Below base w0 W) (hbase : base ≤ W.heap.size) (hl : (xs.length + 1) * bytes ≤ 140737488355328)
    (h : ∀ v1 w1, M.rowW w1 base v1 (xs.length + 1) ((xs ++ [y]).map .string) → Below base w0 w1 → W.grownBy w1 v.ownBlock → (v1.ownBlock = v.ownBlock ∨ ∃ b, v1.ownBlock = some b ∧ W.heap.size ≤ b) → Kc (a.put o.dst v1) w1) :
    if Region.wanted o (yielded ops a.tmps) = true then Oper.wp P o a W Kc Q else Kc (a.put o.dst undef) W := by
 have own_ : W.ownsRow base 9 1 v xs.length (xs.map .string) → (if Region.wanted o (yielded ops a.tmps) = true then Oper.wp P o a W Kc Q else Kc (a.put o.dst undef) W) := by
  intro HO'
  refine Kd.R_append_rows_step Kd.string (Rr := fun x cs => cs = [.string x]) (okp := fun _ => False) (ok := fun _ => True) base hw s x 22 9 z bytes ho ht hinfo hz (by decide) hb0 v xs [y] (some ⟨b, 0, none⟩) 1 1 hs hx (Kd.R_of_own HO' (fun _ _ => trivial)) ⟨rfl, by decide, fun _ => ⟨_, rfl, fun j p hp => ?_⟩⟩ (fun _ _ e => e) (fun _ h => h.elim) (fun _ _ => trivial) HB hbase hl ?_
  ·have hj : j = 0 := by have := (List.getElem?_eq_some_iff.1 hp).1; simpa using this
   subst hj
   obtain rfl : y = p := by simpa using hp
   refine ⟨[.string y], rfl, rfl, fun i u hu => ?_⟩
   have hi : i = 0 := by have := (List.getElem?_eq_some_iff.1 hu).1; simpa using this
   subst hi
   obtain rfl : Value.string y = u := by simpa using hu
   rw [Nat.zero_mul, Nat.zero_add, add_plain]
   exact hy
  ·intro v1 w1 hR hB hg hat
   have := Kd.own_of_R hR
   rw [List.length_append] at this
   exact h v1 w1 (M.rowW_of_own this) hB hg hat
 rcases HO.2 with ⟨e, e0⟩ | ⟨g, cap, cur, e, hg, hh, hn, hm, hs2, he, htk⟩
 ·exact own_ ⟨by rw [Nat.mul_one]; exact HO.1, .inl ⟨e, e0⟩⟩
 ·by_cases hc : xs.length < cap
  ·refine own_ ?_
   rw [e] at HO ⊢
   exact M.rowW_own HO hc
  ·have hcap : cap = xs.length := by omega
   subst hcap
   obtain ⟨i0, hi, hzz⟩ := Option.map_eq_some_iff.1 hinfo
   simp only [Prod.mk.injEq] at hzz
   obtain ⟨hz0, hz1, hz2⟩ := hzz
   have hmx : xs.length + 1 ≤ maxLen := by
    have : (xs.length + 1) * 1 ≤ (xs.length + 1) * bytes := Nat.mul_le_mul_left _ hb0
    unfold maxLen; omega
   obtain ⟨v', w', hrun, r1, r2⟩ := run_append_arg_grows (P := P) W 22 o.type 9 i0 z 1 bytes ht hi hz0 hz1 hz2 hz (by decide) ⟨g, 0, none⟩ xs.length xs.length (xs.map .string) (by rw [List.length_map, Nat.mul_one]) (fun j u hu => HO.cells (by rw [e]; rfl) j u hu) ⟨b, 0, none⟩ 1 1 [.string y] rfl (fun j u hu => by
    have hj : j = 0 := by have := (List.getElem?_eq_some_iff.1 hu).1; simpa using this
    subst hj
    obtain rfl : Value.string y = u := by simpa using hu
    rw [add_plain]
    exact hy) (by omega) hmx hl
   rw [e] at hs
   rw [if_pos hw]
   unfold Oper.wp
   simp [execOp, ho, resolve, invoke, builtin, hs, hx, hrun, Result.andThen]
   have hgb : W.grownBy w' v.ownBlock := ⟨r2.os, r2.tape, r2.output, r2.size, fun k hk _ => r2.block k hk (by simp)⟩
   refine h v' w' (M.row_lower (M.rowW_of_own (by rw [List.map_append]; exact r1)) hbase) (HB.grown r2 hbase (fun k hk => by cases hk)) hgb ?_
   rcases r1.2 with ⟨_, h0⟩ | ⟨g1, c1, cu1, e1, hg1, _⟩
   ·omega
   ·exact .inr ⟨g1, by rw [e1]; rfl, hg1⟩
end
set_option maxHeartbeats 8000000 in
set_option maxRecDepth 100000 in
theorem shelf_Shelf_Put.empty (base g B : Nat) (D : DataW Unit) (vt vn : Value) (ts : List ByteArray) (a b : ByteArray) (w : World) (hS : M.shelf Tryd.prog base w g B D vt vn ts a b) :
    Calls Tryd.prog 30 #[.pointer (some ⟨g, 0, none⟩), .string ByteArray.empty] w fun e w' => e = .returned (.tuple #[.string ByteArray.empty, .int .i64 2]) ∧ w = w' := by
 have HS := Aside0.mk hS
 have hd : (ByteArray.empty : ByteArray).toList.isEmpty = true := by decide +kernel
 clear hS
 go_enter Tryd.func30, Tryd.ntmps30
 go_wp2_with ((go_at_call 50; (with_reducible refine (shelf_Shelf_there.calls base g B D vt vn ts a b _ HS.out).mono ?_); rintro e w1 ⟨rfl, rfl⟩))
 exact bodyPost_ret (v := .tuple #[.string ByteArray.empty, .int .i64 2]) (by simp [results, Tryd.results30, go_sem]; rfl) rfl ⟨rfl, rfl⟩
set_option maxHeartbeats 8000000 in
set_option maxRecDepth 100000 in
theorem shelf_Shelf_Put.long (base g B : Nat) (D : DataW Unit) (vt vn : Value) (ts : List ByteArray) (a b t : ByteArray) (w : World) (hS : M.shelf Tryd.prog base w g B D vt vn ts a b) (ht : 65536 < t.size) (hz : t.size ≤ 1000000000000) :
    Calls Tryd.prog 30 #[.pointer (some ⟨g, 0, none⟩), .string t] w fun e w' => e = .returned (.tuple #[.string ByteArray.empty, .int .i64 5]) ∧ w = w' := by
 have HS := Aside0.mk hS
 have hd : t.toList.isEmpty = false := M.nonempty (fun e => by rw [e] at ht; exact absurd ht (by decide))
 have hdd : decide ((65536 : Int) < (t.size : Int)) = true := decide_eq_true (by omega)
 clear hS
 go_enter Tryd.func30, Tryd.ntmps30
 go_wp2_with ((go_at_call 50; (with_reducible refine (shelf_Shelf_there.calls base g B D vt vn ts a b _ HS.out).mono ?_); rintro e w1 ⟨rfl, rfl⟩))
 exact bodyPost_ret (v := .tuple #[.string ByteArray.empty, .int .i64 5]) (by simp [results, Tryd.results30, go_sem]; rfl) rfl ⟨rfl, rfl⟩
set_option maxHeartbeats 8000000 in
set_option maxRecDepth 100000 in
theorem shelf_Shelf_Put.met (base g B : Nat) (D : DataW Unit) (vt vn : Value) (ts : List ByteArray) (a b t : ByteArray) (i : Nat) (w : World) (hS : M.shelf Tryd.prog base w g B D vt vn ts a b) (hT : M.stab w) (h0 : t ≠ ByteArray.empty) (hl : t.size ≤ 65536) (hn : M.idx (ts.map M.shaSum) (M.shaSum t).data.toList = some i) (he : ts.getD i ByteArray.empty = t) :
    Calls Tryd.prog 30 #[.pointer (some ⟨g, 0, none⟩), .string t] w fun e w' => e = .returned (.tuple #[.string (M.shaSum t), .int .i64 0]) ∧ M.shelf Tryd.prog base w' g B D vt vn ts a b ∧ Below w.heap.size w w' := by
 have hz : t.size ≤ 1000000000000 := by omega
 have hi : i < ts.length := by have := (M.idx_lt hn).1; simpa using this
 obtain ⟨gt, cap, rfl, _, _⟩ := hS.rt.form (by omega)
 have hd : t.toList.isEmpty = false := M.nonempty h0
 have hdd : decide ((65536 : Int) < (t.size : Int)) = false := decide_eq_false (by omega)
 have hKEY := Go.WideMaps.keyOf_string_mk Tryd.underlying9 (show (M.shaSum t).size ≤ maxLen from by have := M.shaSum_size t; unfold maxLen; omega)
 have h1 := (hS.says (M.shaSum t).data.toList).1
 have h2 := (hS.says (M.shaSum t).data.toList).2
 rw [hn] at h1 h2
 have HS := Aside0.mk hS
 have HT1 := Aside0.mk (M.stab_below hT (below_alloc (Below.refl w.heap.size w) (.cells #[.string t] 9)) (M.stab_lt hT))
 have HC1 := Aside0.mk (show (w.alloc (.cells #[.string t] 9)).cell? ⟨w.heap.size, 0, none⟩ = some (.string t) from M.blk_cell (heap_alloc_new w _) 0 _ rfl)
 have g0 : (0 : Int) ≤ (i : Int) := by omega
 have g1 : (i : Int) < (ts.length : Int) := by omega
 obtain ⟨x, hx⟩ : ∃ x, x = ts.getD i ByteArray.empty := ⟨_, rfl⟩
 have HX := Aside0.mk hx.symm
 obtain rfl : x = t := hx.trans he
 clear hS hT he hn hx
 go_enter Tryd.func30, Tryd.ntmps30
 go_wp2_with (first | (go_at_call 50; (with_reducible refine (shelf_Shelf_there.calls base g B D _ vn ts a b _ HS.out).mono ?_); rintro e w1 ⟨rfl, rfl⟩) | (go_at_call 51; (with_reducible refine (sha_Sum.calls ⟨w.heap.size, 0, none⟩ 1 x _ HT1.out HC1.out (Nat.le_refl _) hz).mono ?_); rintro e w2 ⟨rfl, hb2⟩; have HB2 := Aside0.mk (below_step (below_alloc (Below.refl w.heap.size w) _) hb2); have HS2 := Aside0.mk (M.shelf_below HS.out HB2.out); have d0 : w2.cell? ⟨g, 0, none⟩ = some (.map (some B)) := M.blk_cell HS2.out.blk 0 _ rfl; have hown2 := HS2.out.map; have d1 : w2.cell? ⟨g, 1, none⟩ = some (.slice (some ⟨gt, 0, none⟩) ts.length cap) := M.blk_cell HS2.out.blk 1 _ rfl; have di : w2.cell? ⟨gt, i, none⟩ = some (.string x) := M.row_cell HS2.out.rt i x hi HX.out; clear hb2) | (at_lookup; refine wpList_lookup_own_ok_int _ rfl _ _ 88 rfl 9 3 .i64 shelf_Shelf_there.law Tryd.underlying88 Tryd.underlying3 (shelf_Shelf_there.zero_ _) B ts.length D rfl hown2 _ _ rfl hKEY ?_; intro c hat hwc; obtain rfl : c = (i : Int) := by (rw [h2] at hat; simpa using hat.symm)))
 exact bodyPost_ret (v := .tuple #[.string (M.shaSum x), .int .i64 0]) (by simp [results, Tryd.results30, go_sem]) rfl ⟨rfl, HS2.out, HB2.out⟩
set_option maxHeartbeats 8000000 in
set_option maxRecDepth 100000 in
theorem shelf_Shelf_Put.clash1 (base g B : Nat) (D : DataW Unit) (vt vn : Value) (ts : List ByteArray) (a b t : ByteArray) (i : Nat) (w : World) (hS : M.shelf Tryd.prog base w g B D vt vn ts a b) (hT : M.stab w) (h0 : t ≠ ByteArray.empty) (hl : t.size ≤ 65536) (hn : M.idx (ts.map M.shaSum) (M.shaSum t).data.toList = some i) (he : ts.getD i ByteArray.empty ≠ t) (ha : a = ByteArray.empty) :
    Calls Tryd.prog 30 #[.pointer (some ⟨g, 0, none⟩), .string t] w fun e w' => e = .returned (.tuple #[.string ByteArray.empty, .int .i64 15]) ∧ M.shelf Tryd.prog base w' g B D vt vn ts (ts.getD i ByteArray.empty) t ∧ Below base w w' ∧ Kept w w' (M.feet g B vt vn) := by
 subst ha
 have had : (ByteArray.empty : ByteArray).toList.isEmpty = true := by decide +kernel
 have hz : t.size ≤ 1000000000000 := by omega
 have hi : i < ts.length := by have := (M.idx_lt hn).1; simpa using this
 obtain ⟨gt, cap, rfl, _, _⟩ := hS.rt.form (by omega)
 have hd : t.toList.isEmpty = false := M.nonempty h0
 have hdd : decide ((65536 : Int) < (t.size : Int)) = false := decide_eq_false (by omega)
 have hKEY := Go.WideMaps.keyOf_string_mk Tryd.underlying9 (show (M.shaSum t).size ≤ maxLen from by have := M.shaSum_size t; unfold maxLen; omega)
 have h1 := (hS.says (M.shaSum t).data.toList).1
 have h2 := (hS.says (M.shaSum t).data.toList).2
 rw [hn] at h1 h2
 have HS := Aside0.mk hS
 have HBS := Aside0.mk (show base ≤ w.heap.size from Nat.le_of_lt (Nat.lt_of_le_of_lt hS.gb (M.lt_blk hS.blk)))
 have HT1 := Aside0.mk (M.stab_below hT (below_alloc (Below.refl w.heap.size w) (.cells #[.string t] 9)) (M.stab_lt hT))
 have HC1 := Aside0.mk (show (w.alloc (.cells #[.string t] 9)).cell? ⟨w.heap.size, 0, none⟩ = some (.string t) from M.blk_cell (heap_alloc_new w _) 0 _ rfl)
 have g0 : (0 : Int) ≤ (i : Int) := by omega
 have g1 : (i : Int) < (ts.length : Int) := by omega
 obtain ⟨x, hx⟩ : ∃ x, x = ts.getD i ByteArray.empty := ⟨_, rfl⟩
 have HX := Aside0.mk hx.symm
 have hxt : x ≠ t := fun e => he (hx.symm.trans e)
 have hxd : (x.toList == t.toList) = false := by simpa using M.unlike hxt
 clear hS hT he hn hx
 go_enter Tryd.func30, Tryd.ntmps30
 go_wp2_with (first | (go_at_call 50; (with_reducible refine (shelf_Shelf_there.calls base g B D _ vn ts ByteArray.empty b _ HS.out).mono ?_); rintro e w1 ⟨rfl, rfl⟩) | (go_at_call 51; (with_reducible refine (sha_Sum.calls ⟨w.heap.size, 0, none⟩ 1 t _ HT1.out HC1.out (Nat.le_refl _) hz).mono ?_); rintro e w2 ⟨rfl, hb2⟩; have HB2 := Aside0.mk (below_step (below_alloc (Below.refl w.heap.size w) _) hb2); have HS2 := Aside0.mk (M.shelf_below HS.out HB2.out); have d0 : w2.cell? ⟨g, 0, none⟩ = some (.map (some B)) := M.blk_cell HS2.out.blk 0 _ rfl; have hown2 := HS2.out.map; have d1 : w2.cell? ⟨g, 1, none⟩ = some (.slice (some ⟨gt, 0, none⟩) ts.length cap) := M.blk_cell HS2.out.blk 1 _ rfl; have d3 : w2.cell? ⟨g, 3, none⟩ = some (.string ByteArray.empty) := M.blk_cell HS2.out.blk 3 _ rfl; have f3 := M.blk_free HS2.out.blk 3; have f4 := M.blk_free HS2.out.blk 4; have d4 : w2.cell? ⟨g, 4, none⟩ = some (.string b) := M.blk_cell HS2.out.blk 4 _ rfl; have di : w2.cell? ⟨gt, i, none⟩ = some (.string x) := M.row_cell HS2.out.rt i x hi HX.out; clear hb2) | (at_lookup; refine wpList_lookup_own_ok_int _ rfl _ _ 88 rfl 9 3 .i64 shelf_Shelf_there.law Tryd.underlying88 Tryd.underlying3 (shelf_Shelf_there.zero_ _) B ts.length D rfl hown2 _ _ rfl hKEY ?_; intro c hat hwc; obtain rfl : c = (i : Int) := by (rw [h2] at hat; simpa using hat.symm)))
 exact bodyPost_ret (v := .tuple #[.string ByteArray.empty, .int .i64 15]) (by simp [results, Tryd.results30, go_sem]; rfl) rfl ⟨rfl, by rw [HX.out]; exact M.shelf_clash HS2.out x t, ((HB2.out.mono HBS.out).setCell (p := ⟨g, 3, none⟩) HS2.out.gb _).setCell (p := ⟨g, 4, none⟩) HS2.out.gb _, ((Kept.of_below HB2.out (M.feet g B (.slice (some ⟨gt, 0, none⟩) ts.length cap) vn)).setCell (p := ⟨g, 3, none⟩) (.inl (.inl rfl)) _).setCell (p := ⟨g, 4, none⟩) (.inl (.inl rfl)) _⟩
set_option maxHeartbeats 8000000 in
set_option maxRecDepth 100000 in
theorem shelf_Shelf_Put.clash2 (base g B : Nat) (D : DataW Unit) (vt vn : Value) (ts : List ByteArray) (a b t : ByteArray) (i : Nat) (w : World) (hS : M.shelf Tryd.prog base w g B D vt vn ts a b) (hT : M.stab w) (h0 : t ≠ ByteArray.empty) (hl : t.size ≤ 65536) (hn : M.idx (ts.map M.shaSum) (M.shaSum t).data.toList = some i) (he : ts.getD i ByteArray.empty ≠ t) (ha : a ≠ ByteArray.empty) :
    Calls Tryd.prog 30 #[.pointer (some ⟨g, 0, none⟩), .string t] w fun e w' => e = .returned (.tuple #[.string ByteArray.empty, .int .i64 15]) ∧ M.shelf Tryd.prog base w' g B D vt vn ts a b ∧ Below w.heap.size w w' := by
 have had := M.nonempty ha
 have hz : t.size ≤ 1000000000000 := by omega
 have hi : i < ts.length := by have := (M.idx_lt hn).1; simpa using this
 obtain ⟨gt, cap, rfl, _, _⟩ := hS.rt.form (by omega)
 have hd : t.toList.isEmpty = false := M.nonempty h0
 have hdd : decide ((65536 : Int) < (t.size : Int)) = false := decide_eq_false (by omega)
 have hKEY := Go.WideMaps.keyOf_string_mk Tryd.underlying9 (show (M.shaSum t).size ≤ maxLen from by have := M.shaSum_size t; unfold maxLen; omega)
 have h1 := (hS.says (M.shaSum t).data.toList).1
 have h2 := (hS.says (M.shaSum t).data.toList).2
 rw [hn] at h1 h2
 have HS := Aside0.mk hS
 have HT1 := Aside0.mk (M.stab_below hT (below_alloc (Below.refl w.heap.size w) (.cells #[.string t] 9)) (M.stab_lt hT))
 have HC1 := Aside0.mk (show (w.alloc (.cells #[.string t] 9)).cell? ⟨w.heap.size, 0, none⟩ = some (.string t) from M.blk_cell (heap_alloc_new w _) 0 _ rfl)
 have g0 : (0 : Int) ≤ (i : Int) := by omega
 have g1 : (i : Int) < (ts.length : Int) := by omega
 obtain ⟨x, hx⟩ : ∃ x, x = ts.getD i ByteArray.empty := ⟨_, rfl⟩
 have HX := Aside0.mk hx.symm
 have hxt : x ≠ t := fun e => he (hx.symm.trans e)
 have hxd : (x.toList == t.toList) = false := by simpa using M.unlike hxt
 clear hS hT he hn hx
 go_enter Tryd.func30, Tryd.ntmps30
 go_wp2_with (first | (go_at_call 50; (with_reducible refine (shelf_Shelf_there.calls base g B D _ vn ts a b _ HS.out).mono ?_); rintro e w1 ⟨rfl, rfl⟩) | (go_at_call 51; (with_reducible refine (sha_Sum.calls ⟨w.heap.size, 0, none⟩ 1 t _ HT1.out HC1.out (Nat.le_refl _) hz).mono ?_); rintro e w2 ⟨rfl, hb2⟩; have HB2 := Aside0.mk (below_step (below_alloc (Below.refl w.heap.size w) _) hb2); have HS2 := Aside0.mk (M.shelf_below HS.out HB2.out); have d0 : w2.cell? ⟨g, 0, none⟩ = some (.map (some B)) := M.blk_cell HS2.out.blk 0 _ rfl; have hown2 := HS2.out.map; have d1 : w2.cell? ⟨g, 1, none⟩ = some (.slice (some ⟨gt, 0, none⟩) ts.length cap) := M.blk_cell HS2.out.blk 1 _ rfl; have d3 : w2.cell? ⟨g, 3, none⟩ = some (.string a) := M.blk_cell HS2.out.blk 3 _ rfl; have f3 := M.blk_free HS2.out.blk 3; have f4 := M.blk_free HS2.out.blk 4; have d4 : w2.cell? ⟨g, 4, none⟩ = some (.string b) := M.blk_cell HS2.out.blk 4 _ rfl; have di : w2.cell? ⟨gt, i, none⟩ = some (.string x) := M.row_cell HS2.out.rt i x hi HX.out; clear hb2) | (at_lookup; refine wpList_lookup_own_ok_int _ rfl _ _ 88 rfl 9 3 .i64 shelf_Shelf_there.law Tryd.underlying88 Tryd.underlying3 (shelf_Shelf_there.zero_ _) B ts.length D rfl hown2 _ _ rfl hKEY ?_; intro c hat hwc; obtain rfl : c = (i : Int) := by (rw [h2] at hat; simpa using hat.symm)))
 exact bodyPost_ret (v := .tuple #[.string ByteArray.empty, .int .i64 15]) (by simp [results, Tryd.results30, go_sem]; rfl) rfl ⟨rfl, HS2.out, HB2.out⟩
theorem shelf_Shelf_Put.i9 : (Tryd.prog.info? 9).map (fun i => (i.zero, i.size, i.bytes)) = some (some (.string ByteArray.empty), 1, 16) := by kernel_rfl
set_option maxHeartbeats 8000000 in
set_option maxRecDepth 100000 in
theorem shelf_Shelf_Put.new (base g B : Nat) (D : DataW Unit) (vt vn : Value) (ts : List ByteArray) (a b t : ByteArray) (w : World) (hS : M.shelf Tryd.prog base w g B D vt vn ts a b) (hT : M.stab w) (h0 : t ≠ ByteArray.empty) (hl : t.size ≤ 65536) (hts : ts.length ≤ 1000000000) (hn : M.idx (ts.map M.shaSum) (M.shaSum t).data.toList = none) :
    Calls Tryd.prog 30 #[.pointer (some ⟨g, 0, none⟩), .string t] w fun e w' => e = .returned (.tuple #[.string (M.shaSum t), .int .i64 0]) ∧ ∃ D' vt' vn', M.shelf Tryd.prog base w' g B D' vt' vn' (ts ++ [t]) a b ∧ Below base w w' ∧ Kept w w' (M.feet g B vt vn) ∧ ∀ k, M.feet g B vt' vn' k → M.feet g B vt vn k ∨ w.heap.size ≤ k := by
 have hz : t.size ≤ 1000000000000 := by omega
 obtain ⟨At, ct, rfl⟩ := M.rowW_slice hS.rt
 obtain ⟨An, cn, rfl⟩ := M.rowW_slice hS.rn
 have hd : t.toList.isEmpty = false := M.nonempty h0
 have hdd : decide ((65536 : Int) < (t.size : Int)) = false := decide_eq_false (by omega)
 have hKEY := Go.WideMaps.keyOf_string_mk Tryd.underlying9 (show (M.shaSum t).size ≤ maxLen from by have := M.shaSum_size t; unfold maxLen; omega)
 have h1 := (hS.says (M.shaSum t).data.toList).1
 rw [hn] at h1
 have HS := Aside0.mk hS
 have HSay := Aside0.mk (M.told_new hS.says hS.map.isMap (M.shaSum t) hn)
 have HND := Aside0.mk (M.nd_snoc hS.nd hn)
 have HBS := Aside0.mk (show base ≤ w.heap.size from Nat.le_of_lt (Nat.lt_of_le_of_lt hS.gb (M.lt_blk hS.blk)))
 have HT1 := Aside0.mk (M.stab_below hT (below_alloc (Below.refl w.heap.size w) (.cells #[.string t] 9)) (M.stab_lt hT))
 have HC1 := Aside0.mk (show (w.alloc (.cells #[.string t] 9)).cell? ⟨w.heap.size, 0, none⟩ = some (.string t) from M.blk_cell (heap_alloc_new w _) 0 _ rfl)
 clear hS hT hn
 go_enter Tryd.func30, Tryd.ntmps30
 go_wp2_with (first | (go_at_call 50; (with_reducible refine (shelf_Shelf_there.calls base g B D _ _ ts a b _ HS.out).mono ?_); rintro e w1 ⟨rfl, rfl⟩) | (go_at_call 51; (with_reducible refine (sha_Sum.calls ⟨w.heap.size, 0, none⟩ 1 t _ HT1.out HC1.out (Nat.le_refl _) hz).mono ?_); rintro e w2 ⟨rfl, hb2⟩; have HB2 := Aside0.mk (below_step (below_alloc (Below.refl w.heap.size w) _) hb2); have HS2 := Aside0.mk (M.shelf_below HS.out HB2.out); have d0 : w2.cell? ⟨g, 0, none⟩ = some (.map (some B)) := M.blk_cell HS2.out.blk 0 _ rfl; have d1 : w2.cell? ⟨g, 1, none⟩ = some (.slice At ts.length ct) := M.blk_cell HS2.out.blk 1 _ rfl; have hown2 := HS2.out.map; clear hb2) | (at_lookup; refine wpList_lookup_own_ok_int _ rfl _ _ 88 rfl 9 3 .i64 shelf_Shelf_there.law Tryd.underlying88 Tryd.underlying3 (shelf_Shelf_there.zero_ _) B ts.length D rfl hown2 _ _ rfl hKEY ?_; intro c hat hwc))
 obtain ⟨w3, hrun, hown3, hgr3⟩ := (World.ownsMap.drew hown2).update (t := 88) (e := 3) shelf_Shelf_there.law Tryd.underlying88 (by unfold maxLen; omega) hKEY (plainElem_int (q := .i64) Tryd.underlying3 (WalkArith.wf_i64 (show -9223372036854775808 ≤ (ts.length : Int) ∧ (ts.length : Int) ≤ 9223372036854775807 by omega)))
 have hblk3 : w3.heap[g]? = some (.cells #[.map (some B), .slice At ts.length ct, .slice An ts.length cn, .string a, .string b] 91 (0, 0)) := (hgr3.block g (M.lt_blk HS2.out.blk) (fun e => HS2.out.gB (by injection e))).trans HS2.out.blk
 have HK3 := Aside0.mk hblk3
 have HM3 := Aside0.mk hown3
 have HR3 := Aside0.mk (M.row_keep (show M.rowW w2.drew base (.slice At ts.length ct) ts.length (ts.map .string) from HS2.out.rt) hgr3 (.inr HS2.out.tB))
 have HN3 := Aside0.mk (M.row_keep (show M.rowW w2.drew base (.slice An ts.length cn) ts.length ((ts.map M.shaSum).map .string) from HS2.out.rn) hgr3 (.inr HS2.out.nB))
 have HB3 := Aside0.mk ((below_drew1 (HB2.out.mono HBS.out)).grown hgr3 (show base ≤ w2.drew.heap.size from Nat.le_trans HBS.out HB2.out.size) (fun k hk => by injection hk with hk; rw [← hk]; exact HS2.out.bb))
 have HQ3 := Aside0.mk (Kept.of_grown (S := M.feet g B (.slice At ts.length ct) (.slice An ts.length cn)) hgr3 (Kept.drew (Kept.of_below HB2.out _)) (fun k hk => .inl (.inr (.inl (by injection hk with hk; exact hk.symm)))))
 have e1 : w3.cell? ⟨g, 1, none⟩ = some (.slice At ts.length ct) := M.blk_cell hblk3 1 _ rfl
 have e2 : w3.cell? ⟨g, 2, none⟩ = some (.slice An ts.length cn) := M.blk_cell hblk3 2 _ rfl
 have HW3 := Aside0.mk (show w2.heap.size ≤ w3.heap.size from hgr3.size)
 have HGL3 := Aside0.mk (M.lt_blk hblk3)
 have e1a : ∀ o : Obj, (w3.alloc o).cell? ⟨g, 1, none⟩ = some (.slice At ts.length ct) := fun o => (World.cell?_of_block (a := ⟨g, 1, none⟩) (Below.heap_alloc w3 o g HGL3.out)).trans e1
 have e1b : ∀ o o2 : Obj, ((w3.alloc o).alloc o2).cell? ⟨g, 1, none⟩ = some (.slice At ts.length ct) := fun o o2 => (World.cell?_of_block (a := ⟨g, 1, none⟩) (Below.heap_alloc (w3.alloc o) o2 g (by have := HGL3.out; simp; omega))).trans (e1a o)
 have e2a : ∀ o : Obj, (w3.alloc o).cell? ⟨g, 2, none⟩ = some (.slice An ts.length cn) := fun o => (World.cell?_of_block (a := ⟨g, 2, none⟩) (Below.heap_alloc w3 o g HGL3.out)).trans e2
 have e2b : ∀ o o2 : Obj, ((w3.alloc o).alloc o2).cell? ⟨g, 2, none⟩ = some (.slice An ts.length cn) := fun o o2 => (World.cell?_of_block (a := ⟨g, 2, none⟩) (Below.heap_alloc (w3.alloc o) o2 g (by have := HGL3.out; simp; omega))).trans (e2a o)
 clear hown3 hgr3 hblk3 hown2
 go_region
 all_goals
  clear d0 d1 hrun
  go_wp2
  have HB4s := Aside0.mk (show base ≤ w3.heap.size from Nat.le_trans (Nat.le_trans HBS.out HB2.out.size) HW3.out)
  go_region_law (first | (refine shelf_Shelf_Put.app (w0 := w) base (by rfl) (.tmp 81) (.tmp 83) rfl Tryd.underlying22 _ _ shelf_Shelf_Put.i9 rfl (by decide) (.slice At ts.length ct) ts t _ (by rfl) (by rfl) (M.row_below HR3.out (by repeat (first | exact Below.refl _ _ | refine below_drew1 ?_ | refine below_alloc ?_ _))) (by first | exact M.blk_cell (heap_alloc_new _ _) 0 _ rfl | go_simp) (below_then HB3.out HB4s.out (by repeat (first | exact Below.refl _ _ | refine below_drew1 ?_ | refine below_alloc ?_ _))) (Nat.le_trans HB4s.out (Below.size (B := w3.heap.size) (w := w3) (by repeat (first | exact Below.refl _ _ | refine below_drew1 ?_ | refine below_alloc ?_ _)))) (by omega) ?_; intro v1 w4 hown4 hb4 hg4 hat4; obtain ⟨A4, c4, rfl⟩ := M.rowW_slice hown4; have hgw := M.grown_from (w3 := w3) hg4 (by repeat (first | exact Below.refl _ _ | refine below_drew1 ?_ | refine below_alloc ?_ _)); have hblk4 := (hgw.block g HGL3.out HS2.out.tg.symm).trans HK3.out; have f1_ : w4.cell? ⟨g, 1, none⟩ = some (.slice At ts.length ct) := M.blk_cell hblk4 1 _ rfl; have f2_ : w4.cell? ⟨g, 2, none⟩ = some (.slice An ts.length cn) := M.blk_cell hblk4 2 _ rfl; have f2a : ∀ o : Obj, (w4.alloc o).cell? ⟨g, 2, none⟩ = some (.slice An ts.length cn) := fun o => (World.cell?_of_block (a := ⟨g, 2, none⟩) (Below.heap_alloc w4 o g (M.lt_blk hblk4))).trans f2_; have f1f := M.blk_free hblk4 1; have f2f := M.blk_free hblk4 2; have HG4 := Aside0.mk hgw; have HGW4 := Aside0.mk hg4; have HO4 := Aside0.mk hown4; have HB4 := Aside0.mk hb4; have HA4 := Aside0.mk hat4; clear hown4 hb4 hg4 hat4 hgw hblk4) | (refine shelf_Shelf_Put.app (w0 := w) base (by rfl) (.tmp 88) (.tmp 90) rfl Tryd.underlying22 _ _ shelf_Shelf_Put.i9 rfl (by decide) (.slice An ts.length cn) (ts.map M.shaSum) (M.shaSum t) _ (by rfl) (by rfl) (by rw [List.length_map]; exact M.row_below (M.row_keep HN3.out HG4.out (M.sep HS2.out.tn)) (by repeat (first | exact Below.refl _ _ | refine below_alloc ?_ _))) (by first | exact M.blk_cell (heap_alloc_new _ _) 0 _ rfl | (refine (World.cell?_of_block (HGW4.out.block _ (by first | (simp; done) | (simp; omega)) (fun e => Nat.lt_irrefl _ (Nat.lt_of_lt_of_le (M.row_lt HR3.out _ e.symm) (by (simp; done)))))).trans ?_; go_simp; done)) (below_then HB4.out (Nat.le_trans HB4s.out HG4.out.size) (by repeat (first | exact Below.refl _ _ | refine below_alloc ?_ _))) (Nat.le_trans (Nat.le_trans HB4s.out HG4.out.size) (Below.size (B := w4.heap.size) (w := w4) (by repeat (first | exact Below.refl _ _ | refine below_alloc ?_ _)))) (by simp; omega) ?_; intro v2 w5 hown5 hb5 hg5 hat5; obtain ⟨A5, c5, rfl⟩ := M.rowW_slice hown5; have hgw5 := M.grown_from (w3 := w4) hg5 (by repeat (first | exact Below.refl _ _ | refine below_alloc ?_ _)); have hblk5 := (hgw5.block g (Nat.lt_of_lt_of_le HGL3.out HG4.out.size) HS2.out.ng.symm).trans ((HG4.out.block g HGL3.out HS2.out.tg.symm).trans HK3.out); have j1_ : w5.cell? ⟨g, 1, none⟩ = some (.slice At ts.length ct) := M.blk_cell hblk5 1 _ rfl; have j2_ : w5.cell? ⟨g, 2, none⟩ = some (.slice An ts.length cn) := M.blk_cell hblk5 2 _ rfl; have j1f := M.blk_free hblk5 1; have j2f := M.blk_free hblk5 2; have HK5 := Aside0.mk hblk5; have HG5 := Aside0.mk hgw5; have HO5 := Aside0.mk hown5; have HB5 := Aside0.mk hb5; have HA5 := Aside0.mk hat5; clear hown5 hb5 hg5 hat5 hgw5 hblk5))
  all_goals
   have ho5 := HO5.out
   have ha5 := HA5.out
   rw [List.length_map] at ho5 ha5
   have hE := Aside0.mk (M.shelf_end HS2.out HW3.out HM3.out (by simpa using HSay.out) HG4.out HO4.out HA4.out (by first | (simp; done) | (simp; omega)) HG5.out ho5 ha5 (by (simp; done)) HK5.out HQ3.out HND.out)
   have hbe := Aside0.mk ((HB5.out.setCell (p := ⟨g, 1, none⟩) HS2.out.gb (.slice A4 (ts.length + 1) c4)).setCell (p := ⟨g, 2, none⟩) HS2.out.gb (.slice A5 (ts.length + 1) c5))
   clear ho5 ha5 e1 e2 e1a e1b e2a e2b f1_ f2_ f2a f1f f2f j1_ j2_ j1f j2f HK5 HG5 HO5 HB5 HA5 HG4 HGW4 HO4 HB4 HA4 HB4s HQ3 HGL3 HW3 HB3 HN3 HR3 HM3 HK3 hat hwc HS2 HB2 HSay h1
   generalize ((w5.setCell ⟨g, 1, none⟩ (.slice A4 (ts.length + 1) c4)).setCell ⟨g, 2, none⟩ (.slice A5 (ts.length + 1) c5)) = w6 at hE hbe ⊢
   go_wp2
   exact bodyPost_ret (v := .tuple #[.string (M.shaSum t), .int .i64 0]) (by simp [results, Tryd.results30, go_sem]) rfl ⟨rfl, _, _, _, hE.out.1, hbe.out, hE.out.2⟩
theorem shelf_Shelf_Put.any (base g : Nat) (F : Nat → Prop) (s : M.SS) (t : ByteArray) (w : World) (hS : M.Sh Tryd.prog base w g F s) (hT : M.stab w) (hz : t.size ≤ 1000000000000) (hts : s.ts.length ≤ 1000000000) :
    Calls Tryd.prog 30 #[.pointer (some ⟨g, 0, none⟩), .string t] w fun e w' => e = .returned (.tuple #[.string (s.put t).1, .int .i64 (s.put t).2.1]) ∧ M.ShTo Tryd.prog base w g F (s.put t).2.2 w' := by
 obtain ⟨B, D, vt, vn, hs, hF, hl⟩ := id hS
 unfold M.SS.put
 by_cases h0 : t = ByteArray.empty
 ·subst h0
  rw [if_pos rfl]
  refine (shelf_Shelf_Put.empty base g B D vt vn s.ts s.a s.b w hs).mono ?_
  rintro e w' ⟨rfl, rfl⟩
  exact ⟨rfl, hS.same (Below.refl _ _)⟩
 rw [if_neg h0]
 by_cases h1 : 65536 < t.size
 ·rw [if_pos h1]
  refine (shelf_Shelf_Put.long base g B D vt vn s.ts s.a s.b t w hs h1 hz).mono ?_
  rintro e w' ⟨rfl, rfl⟩
  exact ⟨rfl, hS.same (Below.refl _ _)⟩
 rw [if_neg h1]
 cases hi : M.idx (s.ts.map M.shaSum) (M.shaSum t).data.toList with
 | none =>
  refine (shelf_Shelf_Put.new base g B D vt vn s.ts s.a s.b t w hs hT h0 (by omega) hts hi).mono ?_
  rintro e w' ⟨rfl, D', vt', vn', h, hb, hk, hf⟩
  exact ⟨rfl, M.Sh.to_ hs hF hl h hb hk hf⟩
 | some i =>
  simp only
  by_cases he : s.ts.getD i ByteArray.empty = t
  ·rw [if_pos he]
   refine (shelf_Shelf_Put.met base g B D vt vn s.ts s.a s.b t i w hs hT h0 (by omega) hi he).mono ?_
   rintro e w' ⟨rfl, h, hb⟩
   exact ⟨rfl, hS.same hb⟩
  ·rw [if_neg he]
   by_cases ha : s.a = ByteArray.empty
   ·rw [if_pos ha]
    refine (shelf_Shelf_Put.clash1 base g B D vt vn s.ts s.a s.b t i w hs hT h0 (by omega) hi he ha).mono ?_
    rintro e w' ⟨rfl, h, hb, hk⟩
    exact ⟨rfl, M.Sh.to_ hs hF hl h hb hk (fun _ hk => .inl hk)⟩
   ·rw [if_neg ha]
    refine (shelf_Shelf_Put.clash2 base g B D vt vn s.ts s.a s.b t i w hs hT h0 (by omega) hi he ha).mono ?_
    rintro e w' ⟨rfl, h, hb⟩
    exact ⟨rfl, hS.same hb⟩
def chunk_Last.f (a0_0 : Int) (l0_1 : List (S78)) (l0_2 : List Int) : Option (ByteArray) := if (l0_1.length : Int) = 0 then (some (⟨#[]⟩ : ByteArray)) else (if 0 ≤ (wrap64 ((l0_1.length : Int) - 1)) then (if (wrap64 ((l0_1.length : Int) - 1)) < (l0_1.length : Int) then (some ((rd_T78 l0_1 (wrap64 ((l0_1.length : Int) - 1))).f0)) else (none)) else (none))
set_option maxHeartbeats 8000000 in
set_option maxRecDepth 100000 in
theorem chunk_Last.calls (a0_0 : Int) (A0_1 : Option Addr) (c0_1 : Nat) (l0_1 : List (S78)) (A0_2 : Option Addr) (c0_2 : Nat) (l0_2 : List Int) (r : ByteArray) (w : World) (hr0_1 : Kd.C k78 w A0_1 l0_1.length l0_1) (hc0_1 : l0_1.length ≤ c0_1) (hr0_2 : Kd.C (Kd.int .i64) w A0_2 l0_2.length l0_2) (hc0_2 : l0_2.length ≤ c0_2) (h : chunk_Last.f a0_0 l0_1 l0_2 = some r) :
    Calls Tryd.prog 33 #[.agg #[.int .i64 a0_0, .slice A0_1 l0_1.length c0_1, .slice A0_2 l0_2.length c0_2]] w fun e w' => e = .returned (.string r) ∧ Below w.heap.size w w' := by
 have hu26 := Tryd.underlying26
 have HR0_1 := Aside0.mk hr0_1
 have HC0_1 := Aside0.mk hc0_1
 clear hr0_1 hc0_1
 have HR0_2 := Aside0.mk hr0_2
 have HC0_2 := Aside0.mk hc0_2
 clear hr0_2 hc0_2
 have HB := Aside0.mk (Below.refl w.heap.size w)
 have H : (if (l0_1.length : Int) = 0 then (some (⟨#[]⟩ : ByteArray)) else (if 0 ≤ (wrap64 ((l0_1.length : Int) - 1)) then (if (wrap64 ((l0_1.length : Int) - 1)) < (l0_1.length : Int) then (some ((rd_T78 l0_1 (wrap64 ((l0_1.length : Int) - 1))).f0)) else (none)) else (none))) = some r := h
 clear h
 by_cases c2 : (l0_1.length : Int) = 0
 ·rw [if_pos c2] at H
  have c2b0 : ((l0_1.length : Int) == 0) = true := beq_iff_eq.mpr c2
  have c2b1 : ((l0_1.length : Int) != 0) = false := bne_eq_false_iff_eq.mpr c2
  clear c2
  obtain rfl := Option.some.inj H
  go_enter Tryd.func33, Tryd.ntmps33
  go_wp2_with (((with_reducible refine gate_dst (N := 1) rfl ?_); refine M.bx 1 26 (#[.int .i64 a0_0, .slice A0_1 l0_1.length c0_1, .slice A0_2 l0_2.length c0_2]) ?_; intro zaa hg w3 hbox hb; have zab := Aside0.mk (hbox); have zac := M.upG HB hg; have zad := M.upG HB hg; replace HB := M.upS HB hb; clear hb hbox hg; obtain ⟨zae, zaf, zag⟩ := M.bc3 (w := w3) (a := .int .i64 a0_0) (b := .slice A0_1 l0_1.length c0_1) (c := .slice A0_2 l0_2.length c0_2) zab.out; obtain ⟨zah, zai, zaj⟩ := M.bf3 zab))
  go_ret
  exact M.fin (M.up HB)
 ·rw [if_neg c2] at H
  have c2b0 : ((l0_1.length : Int) == 0) = false := beq_eq_false_iff_ne.mpr c2
  have c2b1 : ((l0_1.length : Int) != 0) = true := bne_iff_ne.mpr c2
  have c2b2 : ¬ (l0_1 = []) := fun h_ => c2 (by rw [h_]; rfl)
  obtain ⟨ji5, hji5⟩ : ∃ j_ : Int, (wrap64 ((l0_1.length : Int) - 1)) = j_ := ⟨_, rfl⟩
  replace H : (if 0 ≤ (ji5) then (if (ji5) < (l0_1.length : Int) then (some ((rd_T78 l0_1 (ji5)).f0)) else (none)) else (none)) = some r := by (rw [hji5] at H; exact H)
  have hji5w : (IntKind.i64.wrap ((l0_1.length : Int) - 1)) = ji5 := (i64_w _).trans hji5
  by_cases c6 : 0 ≤ (ji5)
  ·rw [if_pos c6] at H
   have c6b0 := decide_eq_true c6
   clear c6
   by_cases c7 : (ji5) < (l0_1.length : Int)
   ·rw [if_pos c7] at H
    have c7b0 := decide_eq_true c7
    clear c7
    obtain rfl := Option.some.inj H
    go_enter Tryd.func33, Tryd.ntmps33
    go_wp2_with (((with_reducible refine gate_dst (N := 1) rfl ?_); refine M.bx 1 26 (#[.int .i64 a0_0, .slice A0_1 l0_1.length c0_1, .slice A0_2 l0_2.length c0_2]) ?_; intro zaa hg w8 hbox hb; have zab := Aside0.mk (hbox); have zac := M.upG HB hg; have zad := M.upG HB hg; replace HB := M.upS HB hb; clear hb hbox hg; obtain ⟨zak, zal, zam⟩ := M.bc3 (w := w8) (a := .int .i64 a0_0) (b := .slice A0_1 l0_1.length c0_1) (c := .slice A0_2 l0_2.length c0_2) zab.out; obtain ⟨zan, zao, zap⟩ := M.bf3 zab; have p103 : 0 ≤ ((ji5) : Int) := M.dt; have q103 : (ji5) < (l0_1.length : Int) := M.dt; obtain ⟨ad103, e103, hx103_0, hx103_1⟩ := at_T78 HR0_1.out (ji5) p103 q103; cases e103; replace hx103_0 := M.hc HB hx103_0; replace hx103_1 := M.hc HB hx103_1; replace p103 := eq_true p103; replace q103 := eq_true q103))
    go_ret
    exact ⟨by (rfl), M.up HB⟩
   ·exact M.nf c7 H
  ·exact M.nf c6 H
def chunk_Total.l0 : Nat → Int → List Int → Int → Int → Option (Int)
  | 0, _, _, _, _ => none
  | k + 1, x3, x13, x14, x15 => if x15 < x14 then (if 0 ≤ x15 then (if x15 < (x13.length : Int) then (chunk_Total.l0 k (wrap64 (x3 + (rd x13 x15))) x13 x14 (wrap64 (x15 + 1))) else (none)) else (none)) else (some x3)
def chunk_Total.f (k : Nat) (a0_0 : Int) (l0_1 : List (S78)) (l0_2 : List Int) : Option (Int) := if a0_0 = 0 then (some (l0_1.length : Int)) else (chunk_Total.l0 k 0 l0_2 (l0_2.length : Int) 0)
theorem chunk_Total.mono_l : ∀ k, (∀ y0 y1 y2 y3, LeO (chunk_Total.l0 k y0 y1 y2 y3) (chunk_Total.l0 (k + 1) y0 y1 y2 y3))
  | 0 => fun _ _ _ _ r h => by simp [chunk_Total.l0] at h
  | k + 1 => by
    have ih0 := chunk_Total.mono_l k
    · intro y0 y1 y2 y3
      unfold chunk_Total.l0
      repeat' first
      | (with_reducible exact ih0 _ _ _ _)
      | (with_reducible exact LeO.refl _)
      | (with_reducible refine LeO.ite ?_ ?_)
theorem chunk_Total.mono : ∀ a0 a1 a2 k, LeO (chunk_Total.f k a0 a1 a2) (chunk_Total.f (k + 1) a0 a1 a2) := by
  intro a0 a1 a2 k
  have ih0 := chunk_Total.mono_l k
  unfold chunk_Total.f
  repeat' first
      | (with_reducible exact ih0 _ _ _ _)
      | (with_reducible exact LeO.refl _)
      | (with_reducible refine LeO.ite ?_ ?_)
set_option maxHeartbeats 8000000 in
set_option maxRecDepth 100000 in
theorem chunk_Total.calls (k : Nat) (a0_0 : Int) (A0_1 : Option Addr) (c0_1 : Nat) (l0_1 : List (S78)) (A0_2 : Option Addr) (c0_2 : Nat) (l0_2 : List Int) (r : Int) (w : World) (hr0_1 : Kd.C k78 w A0_1 l0_1.length l0_1) (hc0_1 : l0_1.length ≤ c0_1) (hr0_2 : Kd.C (Kd.int .i64) w A0_2 l0_2.length l0_2) (hc0_2 : l0_2.length ≤ c0_2) (h : chunk_Total.f k a0_0 l0_1 l0_2 = some r) :
    Calls Tryd.prog 34 #[.agg #[.int .i64 a0_0, .slice A0_1 l0_1.length c0_1, .slice A0_2 l0_2.length c0_2]] w fun e w' => e = .returned (.int .i64 r) ∧ Below w.heap.size w w' := by
 have hu26 := Tryd.underlying26
 have HR0_1 := Aside0.mk hr0_1
 have HC0_1 := Aside0.mk hc0_1
 clear hr0_1 hc0_1
 have HR0_2 := Aside0.mk hr0_2
 have HC0_2 := Aside0.mk hc0_2
 clear hr0_2 hc0_2
 have HB := Aside0.mk (Below.refl w.heap.size w)
 have H : (if a0_0 = 0 then (some (l0_1.length : Int)) else (chunk_Total.l0 k 0 l0_2 (l0_2.length : Int) 0)) = some r := h
 clear h
 by_cases c2 : a0_0 = 0
 ·rw [if_pos c2] at H
  have c2b0 : (a0_0 == 0) = true := beq_iff_eq.mpr c2
  have c2b1 : (a0_0 != 0) = false := bne_eq_false_iff_eq.mpr c2
  clear c2
  obtain rfl := Option.some.inj H
  go_enter Tryd.func34, Tryd.ntmps34
  go_wp2_with (((with_reducible refine gate_dst (N := 1) rfl ?_); refine M.bx 1 26 (#[.int .i64 a0_0, .slice A0_1 l0_1.length c0_1, .slice A0_2 l0_2.length c0_2]) ?_; intro zaq hg w3 hbox hb; have zar := Aside0.mk (hbox); have zas := M.upG HB hg; have zat := M.upG HB hg; replace HB := M.upS HB hb; clear hb hbox hg; obtain ⟨zae, zaf, zag⟩ := M.bc3 (w := w3) (a := .int .i64 a0_0) (b := .slice A0_1 l0_1.length c0_1) (c := .slice A0_2 l0_2.length c0_2) zar.out; obtain ⟨zah, zai, zaj⟩ := M.bf3 zar))
  go_ret
  exact M.fin (M.up HB)
 ·rw [if_neg c2] at H
  have c2b0 : (a0_0 == 0) = false := beq_eq_false_iff_ne.mpr c2
  have c2b1 : (a0_0 != 0) = true := bne_iff_ne.mpr c2
  have H' := Aside0.mk H
  clear H
  go_enter Tryd.func34, Tryd.ntmps34
  go_wp2_with (((with_reducible refine gate_dst (N := 1) rfl ?_); refine M.bx 1 26 (#[.int .i64 a0_0, .slice A0_1 l0_1.length c0_1, .slice A0_2 l0_2.length c0_2]) ?_; intro zaq hg w5 hbox hb; have zar := Aside0.mk (hbox); have zas := M.upG HB hg; have zat := M.upG HB hg; replace HB := M.upS HB hb; clear hb hbox hg; obtain ⟨zau, zav, zaw⟩ := M.bc3 (w := w5) (a := .int .i64 a0_0) (b := .slice A0_1 l0_1.length c0_1) (c := .slice A0_2 l0_2.length c0_2) zar.out; obtain ⟨zax, zay, zaz⟩ := M.bf3 zar))
  go_loopg [3, 15] k (fun kq v3 v15 w' => ∃ (x3_1 : Int) (x15_1 : Int), v3 = .int .i64 x3_1 ∧ v15 = .int .i64 x15_1 ∧ Aside0 (chunk_Total.l0 kq x3_1 l0_2 (l0_2.length : Int) x15_1 = some r) ∧ Aside0 (kq ≤ k) ∧ Aside0 (w'.heap[zaq]? = some (.cells #[.int .i64 a0_0, (.slice A0_1 l0_1.length c0_1), (.slice A0_2 l0_2.length c0_2)] 26 (0, 0))) ∧ Aside0 (Below w.heap.size w w'))
  case atStart => exact ⟨(0), (0), M.eqv, M.eqv, H', ⟨Nat.le_refl _⟩, ⟨M.bk zar⟩, ⟨M.up HB⟩⟩
  case round =>
   clear H'
   clear c2 c2b0 c2b1 zau zav zaw zax zay zaz
   obtain ⟨x3_1, x15_1, rfl, rfl, HA, HK1, zar, HB⟩ := hrel
   cases gk with
   | zero => exact absurd HA.out (by simp [chunk_Total.l0])
   | succ k1 =>
    have H := HA.out
    clear HA
    simp only [chunk_Total.l0] at H
    by_cases c7 : x15_1 < (l0_2.length : Int)
    ·rw [if_pos c7] at H
     have c7b0 := decide_eq_true c7
     clear c7
     by_cases c8 : 0 ≤ x15_1
     ·rw [if_pos c8] at H
      have c8b0 := decide_eq_true c8
      clear c8
      by_cases c9 : x15_1 < (l0_2.length : Int)
      ·rw [if_pos c9] at H
       have c9b0 := decide_eq_true c9
       clear c9
       have H' := Aside0.mk H
       clear H
       have p105 : 0 ≤ (x15_1 : Int) := M.dt
       have q105 : x15_1 < (l0_2.length : Int) := M.dt
       obtain ⟨ad105, e105, hx105_0⟩ := Kd.at_int HR0_2.out x15_1 p105 q105
       cases e105
       replace hx105_0 := M.hc HB hx105_0
       replace p105 := eq_true p105
       replace q105 := eq_true q105
       go_wp2
       go_roundg k1
       case measure => have := HK1.out; omega
       case rel => exact ⟨(wrap64 (x3_1 + (rd l0_2 x15_1))), (wrap64 (x15_1 + 1)), M.eqv, M.eqv, H', ⟨by have := HK1.out; omega⟩, ⟨M.bk zar⟩, ⟨M.up HB⟩⟩
      ·exact M.nf c9 H
     ·exact M.nf c8 H
    ·rw [if_neg c7] at H
     have c7b0 := decide_eq_false c7
     clear c7
     obtain rfl := Option.some.inj H
     go_wp2
     go_ret
     exact M.fin (M.up HB)
end Go.Proofs.YtopllfdjlbnmfaaDoor.ETreeChildren
