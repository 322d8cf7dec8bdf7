-- Laid by this session's own program (wip/tools/fold.py): this session's texts, cut to what the claim names and put together; Lean checks it.
import Derived.Test.YtikdbklmhjlfoaaDoorVCommitKnots1
import Derived.Test.YtikdbklmhjlfoaaDoorVCommitKnots3
import Derived.Test.YtikdbklmhjlfoaaDoorVCommitKnots5
import Derived.Test.YtikdbklmhjlfoaaDoorXCommitKnots1
namespace Go.Proofs.YtikdbklmhjlfoaaDoor.ECommitKnots
open Go.RowKit Go.Proofs.YtikdbklmhjlfoaaDoorW.PrintWords Go.Proofs.YtikdbklmhjlfoaaDoorW.PrintLast Go.Proofs.YtikdbklmhjlfoaaDoorW.PrintMore
attribute [local go_sem] M.run_leq M.run_gtr M.run_geq max2_int min2_int max_two min_two max_three min_three max_four min_four
set_option linter.unusedVariables false
set_option linter.unusedSimpArgs false
section
open Go.Maps
theorem commit_visit.law : Maps.Keyed Tryd.prog 9 := Maps.string_keyed Tryd.underlying9
theorem commit_visit.zero_ (w : World) : (zeroValue 3).run Tryd.prog w = .ok (.int .i64 0) w := by kernel_rfl
def commit_visit.ld (s : M.SS) (n : ByteArray) : Option S24 := if (s.get n).2 = true ∧ M.cgood (s.get n).1 then some ⟨(M.cN (s.get n).1).1, (M.cP (s.get n).1).1, (M.cG (s.get n).1).1, (M.cT (s.get n).1).1⟩ else none
structure commit_visit.Hist (w0 W : World) (b B g k : Nat) (D : DataW Unit) (vN vA vX : Value) (ps : List ByteArray) (st : M.BS S24) : Prop where
  blk : M.rec_ W b 90 [.pointer (some ⟨g, 0, none⟩), .map (some B), vN, vA, .int .i64 (if st.bad = true then 13 else 0)]
  map : W.ownsMap Tryd.prog 9 (plainElem (H := Unit) Tryd.prog 3) B k D
  says : ∀ n : ByteArray, D.atKey (.string n.data.toList) (.lit (.int .i64 0)) = .lit (.int .i64 (if M.hasN st.names n = true then 1 else 0))
  cnt : k ≤ st.names.length
  rn : Kd.R Kd.string 9 W w0.heap.size (fun _ => True) vN st.names
  ra : Kd.R k24 24 W w0.heap.size (fun k => some k ≠ vN.ownBlock) vA st.all
  gb : w0.heap.size ≤ b
  gB : w0.heap.size ≤ B
  bB : b ≠ B
  low : Below w0.heap.size w0 W
  ws : w0.heap.size ≤ W.heap.size
  re : Kd.R Kd.string 9 W w0.heap.size (fun j => some j ≠ vN.ownBlock) vX ps
set_option maxHeartbeats 8000000 in
set_option maxRecDepth 100000 in
theorem commit_visit.met (w0 W : World) (b B g k : Nat) (D : DataW Unit) (vN vA vX : Value) (ps : List ByteArray) (st : M.BS S24) (n : ByteArray) (hz : n.size ≤ 1000000000000) (h : commit_visit.Hist w0 W b B g k D vN vA vX ps st) (hm : M.hasN st.names n = true ∨ st.bad = true) :
    Calls Tryd.prog 48 #[.pointer (some ⟨b, 0, none⟩), .string n] W fun e W' => e = .returned (.tuple #[]) ∧ W' = W := by
 have hKEY := Go.WideMaps.keyOf_string_mk Tryd.underlying9 (show n.size ≤ maxLen from by unfold maxLen; omega)
 have q1 := M.rec_cell h.blk 1 _ rfl
 have q4 := M.rec_cell h.blk 4 _ rfl
 have hown := h.map
 have hs := Aside0.mk (h.says n)
 clear h
 by_cases hh : M.hasN st.names n = true
 ·rw [if_pos hh] at hs
  clear hm
  go_enter Tryd.func48, Tryd.ntmps48
  go_wp2_with (at_lookup; refine wpList_lookup_own_int _ rfl _ _ 78 rfl 9 3 .i64 commit_visit.law Tryd.underlying78 Tryd.underlying3 (commit_visit.zero_ _) B k D rfl hown _ _ rfl hKEY ?_; intro c0 hat hwc; obtain rfl : c0 = 1 := by (have h2 := hs.out.symm.trans hat; injection h2 with h3; injection h3 with _ h4; exact h4.symm))
  first | go_end0 | ((try simp only [Exit.inBlock, Exit.then]); refine bodyPost_ret (results_none rfl _ _ _) rfl ?_)
  exact ⟨rfl, rfl⟩
 ·rw [if_neg hh] at hs
  have hb : st.bad = true := hm.resolve_left hh
  rw [if_pos hb] at q4
  go_enter Tryd.func48, Tryd.ntmps48
  go_wp2_with (at_lookup; refine wpList_lookup_own_int _ rfl _ _ 78 rfl 9 3 .i64 commit_visit.law Tryd.underlying78 Tryd.underlying3 (commit_visit.zero_ _) B k D rfl hown _ _ rfl hKEY ?_; intro c0 hat hwc; obtain rfl : c0 = 0 := by (have h2 := hs.out.symm.trans hat; injection h2 with h3; injection h3 with _ h4; exact h4.symm))
  first | go_end0 | ((try simp only [Exit.inBlock, Exit.then]); refine bodyPost_ret (results_none rfl _ _ _) rfl ?_)
  exact ⟨rfl, rfl⟩
theorem commit_visit.is_ (x : ByteArray) : ∃ b, commit_Is.f x = some b := by
 unfold commit_Is.f
 by_cases h : x.toList = ([] : List UInt8)
 ·exact ⟨_, by rw [if_pos h]⟩
 ·have : 0 < x.size := by
   rcases Nat.eq_zero_or_pos x.size with h0 | h0
   ·exact absurd (by rw [M.toList_bs]; exact List.eq_nil_of_length_eq_zero (by rw [M.bs_length]; exact h0)) h
   ·exact h0
  exact ⟨_, by rw [if_neg h, if_pos (by omega)]⟩
theorem commit_visit.l0 (base g : Nat) (F : Nat → Prop) (s : M.SS) (n : ByteArray) (w : World) (hS : M.Sh Tryd.prog base w g F s) (hz : n.size ≤ 1000000000000) (hts : ∀ t ∈ s.ts, t.size ≤ 1000000000000) (h : commit_visit.ld s n = none) :
    Calls Tryd.prog 20 #[.pointer (some ⟨g, 0, none⟩), .string n] w fun e w' => e = .returned (.tuple #[.agg #[.int .i64 0, .slice none 0 0, .string ⟨#[]⟩, .string ⟨#[]⟩], .int .i64 13]) ∧ Below w.heap.size w w' := by
 have hx : (s.get n).1.size ≤ 1000000000000 := by
  unfold M.SS.get
  cases hi : M.idx (s.ts.map M.shaSum) n.data.toList with
  | none => exact (show (0 : Nat) ≤ 1000000000000 by decide)
  | some i => exact hts _ (M.getD_mem (by have := (M.idx_lt hi).1; simpa using this))
 obtain ⟨⟨x, ok⟩, hg⟩ : ∃ y, s.get n = y := ⟨_, rfl⟩
 rw [hg] at hx
 unfold commit_visit.ld at h
 rw [hg] at h
 cases ok with
 | false => exact commit_Load.bad base g F s n x false w hS hz hg (.inl rfl)
 | true =>
  obtain ⟨b, hb⟩ := commit_visit.is_ x
  cases b with
  | false => exact commit_Load.bad base g F s n x true w hS hz hg (.inr hb)
  | true =>
   have hc : ¬ M.cgood x := fun hc => by rw [if_pos ⟨rfl, hc⟩] at h; cases h
   exact commit_Load.rot base g F s n x 0 [] ⟨#[]⟩ ⟨#[]⟩ 3 w hS hz hg hb (by
    unfold commit_Take.f
    rw [if_pos (by simp only at hx; omega), if_neg hc]; rfl) (by decide)
theorem commit_visit.l1 (base g : Nat) (F : Nat → Prop) (s : M.SS) (n : ByteArray) (w : World) (hS : M.Sh Tryd.prog base w g F s) (hz : n.size ≤ 1000000000000) (hts : ∀ t ∈ s.ts, t.size ≤ 1000000000000) (c : S24) (h : commit_visit.ld s n = some c) :
    Calls Tryd.prog 20 #[.pointer (some ⟨g, 0, none⟩), .string n] w fun e w' => ∃ A d, e = .returned (.tuple #[.agg #[.int .i64 c.f0, .slice A c.f1.length d, .string c.f2, .string c.f3], .int .i64 0]) ∧ Kd.R Kd.string 9 w' w.heap.size (fun _ => True) (.slice A c.f1.length d) c.f1 ∧ Below w.heap.size w w' := by
 have hx : (s.get n).1.size ≤ 1000000000000 := by
  unfold M.SS.get
  cases hi : M.idx (s.ts.map M.shaSum) n.data.toList with
  | none => exact (show (0 : Nat) ≤ 1000000000000 by decide)
  | some i => exact hts _ (M.getD_mem (by have := (M.idx_lt hi).1; simpa using this))
 obtain ⟨⟨x, ok⟩, hg⟩ : ∃ y, s.get n = y := ⟨_, rfl⟩
 rw [hg] at hx
 unfold commit_visit.ld at h
 rw [hg] at h
 split at h
 ·rename_i hc
  obtain ⟨rfl, hc⟩ := hc
  obtain rfl := Option.some.inj h
  obtain ⟨b, hb⟩ := commit_visit.is_ x
  have hbt : b = true := by
   have h1 := hc.1
   unfold M.xbyte at h1
   rw [if_pos rfl] at h1
   split at h1
   ·rename_i hp
    unfold commit_Is.f at hb
    have hp1 : (0 : Int) < (x.size : Int) := hp
    have hne : ¬ x.toList = ([] : List UInt8) := fun z => by
     have h9 := M.bs_length x
     rw [← M.toList_bs, z] at h9
     simp only [List.length_nil] at h9
     omega
    rw [if_neg hne, if_pos hp1] at hb
    have hb := Option.some.inj hb
    rw [← hb]
    simp only at h1
    simp [h1]
   ·exact absurd h1 (by decide)
  subst hbt
  exact commit_Load.good base g F s n x _ _ _ _ w hS hz hg hb (by
   unfold commit_Take.f
   rw [if_pos (by simp only at hx; omega), if_pos hc])
 ·cases h
theorem commit_visit.size_ : (Tryd.prog.info? 24).map (·.size) = some 4 := by kernel_rfl
theorem commit_visit.apart {α : Type} {d : Kd α} {e base : Nat} {W w1 : World} {v : Value} {xs : List α} {ok : Nat → Prop} {b : Nat} {cs : List Value} (h : d.R e W base ok v xs) (hb : M.rec_ W b 90 cs) (hE : ∀ q ∈ e :: d.E, q ≠ 90) (hk : ∀ k, k ≠ b → k < W.heap.size → w1.heap[k]? = W.heap[k]?) : d.R e w1 base ok v xs :=
  Kd.R_mono (Kd.R_step (Kd.R_bound h) (fun k hk1 hlt => hk k (fun e => by
    obtain ⟨_, _, _, q, hq, cells, hc⟩ := hk1
    rw [e, show W.heap[b]? = _ from hb] at hc
    injection hc with hc
    injection hc with _ h2 _
    exact hE q hq h2.symm) hlt)) (fun _ hk => hk.1)
set_option maxHeartbeats 8000000 in
set_option maxRecDepth 100000 in
theorem commit_visit.fail (w0 W : World) (b B g k : Nat) (D : DataW Unit) (vN vA vX : Value) (ps : List ByteArray) (st : M.BS S24) (n : ByteArray) (base : Nat) (F : Nat → Prop) (s : M.SS) (hz : n.size ≤ 1000000000000) (h : commit_visit.Hist w0 W b B g k D vN vA vX ps st) (hS : M.Sh Tryd.prog base w0 g F s) (hts : ∀ t ∈ s.ts, t.size ≤ 1000000000000) (hm : ¬ M.hasN st.names n = true) (hb : st.bad = false) (hl : commit_visit.ld s n = none) :
    Calls Tryd.prog 48 #[.pointer (some ⟨b, 0, none⟩), .string n] W fun e W' => e = .returned (.tuple #[]) ∧ commit_visit.Hist w0 W' b B g k D vN vA vX ps ⟨st.names, st.all, true⟩ := by
 have hKEY := Go.WideMaps.keyOf_string_mk Tryd.underlying9 (show n.size ≤ maxLen from by unfold maxLen; omega)
 have hblk := h.blk
 rw [hb, if_neg (by decide)] at hblk
 have q0 := M.rec_cell hblk 0 _ rfl
 have q1 := M.rec_cell hblk 1 _ rfl
 have q4 := M.rec_cell hblk 4 _ rfl
 have hown := h.map
 have hs := Aside0.mk (h.says n)
 rw [if_neg hm] at hs
 have HS := Aside0.mk (hS.below h.low)
 have HH := Aside0.mk h
 have HK := Aside0.mk hblk
 have HL := Aside0.mk hl
 have HZ := Aside0.mk hts
 clear h hblk hS hl hts hm
 go_enter Tryd.func48, Tryd.ntmps48
 go_wp2_with (first | (at_lookup; refine wpList_lookup_own_int _ rfl _ _ 78 rfl 9 3 .i64 commit_visit.law Tryd.underlying78 Tryd.underlying3 (commit_visit.zero_ _) B k D rfl hown _ _ rfl hKEY ?_; intro c0 hat hwc; obtain rfl : c0 = 0 := by (have h2 := hs.out.symm.trans hat; injection h2 with h3; injection h3 with _ h4; exact h4.symm)) | (go_at_call 20; (with_reducible refine (commit_visit.l0 base g F s n _ HS.out hz HZ.out HL.out).mono ?_); rintro e w2 ⟨rfl, hb2⟩; have HB2 := Aside0.mk hb2; clear hb2) | ((with_reducible refine gate_store (t := 24) (p := 4) (v := .tmp 27) rfl ?_); refine M.wp_rec_store rfl 24 _ _ rfl w2.heap.size 24 commit_Load.zero_ commit_Load.zero_ rfl rfl (M.rec_new w2 24 commit_Load.zero_) rfl commit_Load.size_ rfl ?_; intro w4 hA4 hF4 hB4 hz4; have HB4 := Aside0.mk (hB4 _ _ (Nat.le_refl _) (below_alloc (Below.refl w2.heap.size w2) _)); have p0 := M.rec_free (M.rec_below (M.rec_below HK.out HB2.out) HB4.out) 4; have p1 := M.rec_cell (M.rec_below (M.rec_below HK.out HB2.out) HB4.out) 4 _ rfl; clear hA4 hF4 hB4 hz4))
 have H := HH.out
 have hb4 : Below W.heap.size W w4 := below_step HB2.out HB4.out
 have hf : ∀ v j, j ≠ b → j < W.heap.size → (w4.setCell ⟨b, 4, none⟩ v).heap[j]? = W.heap[j]? := fun v j hj hlt => (Below.heap_setCell w4 ⟨b, 4, none⟩ v j hj).trans (hb4.block j hlt)
 refine bodyPost_ret (results_none rfl _ _ _) rfl ⟨rfl, M.rec_set (M.rec_below HK.out hb4) 4 _, (H.map.kept (grown_of_below hb4 none) (by simp)).setCell (a := ⟨b, 4, none⟩) H.bB.symm _, H.says, H.cnt, commit_visit.apart H.rn HK.out (by decide) (hf _), commit_visit.apart H.ra HK.out (by decide) (hf _), H.gb, H.gB, H.bB, (below_then H.low H.ws hb4).setCell (p := ⟨b, 4, none⟩) H.gb _, Nat.le_trans H.ws (by simp; exact hb4.size), commit_visit.apart H.re HK.out (by decide) (hf _)⟩
theorem commit_visit.nb {α : Type} {d : Kd α} {e base t : Nat} {W : World} {v : Value} {xs : List α} {ok : Nat → Prop} {b : Nat} {cs : List Value} (h : d.R e W base ok v xs) (hb : M.rec_ W b t cs) (hE : ∀ q ∈ e :: d.E, q ≠ t) : some b ≠ v.ownBlock := fun e1 => by
  obtain ⟨_, _, _, q, hq, cells, hc⟩ := (Kd.R_bound h).1 b e1.symm
  rw [show W.heap[b]? = _ from hb] at hc
  injection hc with hc
  injection hc with _ h2 _
  exact hE q hq h2.symm
section
variable {P : Program} {ops : Array Oper} {o : Oper} {a : Act} {Q : Exit → Act → World → Prop} {Kc : Act → World → Prop}
theorem commit_visit.app {α : Type} (d : Kd α) {w0 W : World} (base : Nat) (hw : Region.wanted o (yielded ops a.tmps) = true) (s x : Operand) (t e : TypeId) (ho : o.op = .call { callee := .builtin .append, args := #[s, x], argTypes := #[t, t] })
    (ht : P.underlying t = some (.slice e)) (z : Value) (bytes : Nat) (hinfo : (P.info? e).map (fun i => (i.zero, i.size, i.bytes)) = some (some z, d.sz, bytes)) (hz : z.cells.size = d.sz) (hs0 : 0 < d.sz) (hb0 : 0 < bytes)
    (v : Value) (xs : List α) (y : α) (cs : List Value) (b : Nat) (ok okp : Nat → Prop) (hs : a.eval s = v) (hx : a.eval x = .slice (some ⟨b, 0, none⟩) 1 1) (HO : d.R e W base ok v xs) (hy : M.rec_ W b e cs) (hlen : cs.length = d.sz) (hM : d.M W base okp y cs)
    (hokp : ∀ k, okp k → ok k ∧ some k ≠ v.ownBlock) (hfresh : ∀ k, W.heap.size ≤ k → ok k) (HB : Below base w0 W) (hbase : base ≤ W.heap.size) (hl : (xs.length + 1) * bytes ≤ 140737488355328)
    (h : ∀ v1 w1, d.R e w1 base ok v1 (xs ++ [y]) → Below base w0 w1 → W.grownBy w1 v.ownBlock → (v1.ownBlock = v.ownBlock ∨ ∃ b, v1.ownBlock = some b ∧ W.heap.size ≤ b) → Kc (a.put o.dst v1) w1) :
    if Region.wanted o (yielded ops a.tmps) = true then Oper.wp P o a W Kc Q else Kc (a.put o.dst undef) W := by
 refine Kd.R_append_rows_step d (Rr := fun y' cs' => y' = y ∧ cs' = cs) base hw s x t e z bytes ho ht hinfo hz hs0 hb0 v xs [y] (some ⟨b, 0, none⟩) 1 1 ok okp hs hx HO ⟨rfl, by decide, fun _ => ⟨_, rfl, fun j p hp => ?_⟩⟩ ?_ hokp hfresh HB hbase hl h
 ·have hj : j = 0 := by have := (List.getElem?_eq_some_iff.1 hp).1; simpa using this
  subst hj
  obtain rfl : y = p := by simpa using hp
  refine ⟨cs, hlen, ⟨rfl, rfl⟩, fun i u hu => ?_⟩
  rw [Nat.zero_mul, Nat.zero_add, add_plain]
  exact M.rec_cell hy i u hu
 ·rintro y' cs' ⟨rfl, rfl⟩
  exact hM
theorem commit_visit.i24 : (Tryd.prog.info? 24).map (fun i => (i.zero, i.size, i.bytes)) = some (some (.agg #[.int .i64 0, .slice none 0 0, .string ⟨#[]⟩, .string ⟨#[]⟩]), 4, 64) := by kernel_rfl
end
end
section
open Go.Maps
structure commit_visit.Mid (w0 W : World) (b B g k h L U : Nat) (D : DataW Unit) (vN vA vP v vX : Value) (ps names : List ByteArray) (all : List S24) (c : S24) : Prop where
  blk : M.rec_ W b 90 [.pointer (some ⟨g, 0, none⟩), .map (some B), vN, vA, .int .i64 0]
  map : W.ownsMap Tryd.prog 9 (plainElem (H := Unit) Tryd.prog 3) B k D
  rn : Kd.R Kd.string 9 W w0.heap.size (fun _ => True) v names
  ra : Kd.R k24 24 W w0.heap.size (fun j => some j ≠ v.ownBlock) vA all
  rc : M.rec_ W h 24 [.int .i64 c.f0, vP, .string c.f2, .string c.f3]
  rp : Kd.R Kd.string 9 W w0.heap.size (fun j => L ≤ j ∧ j < U) vP c.f1
  low : Below w0.heap.size w0 W
  ws : w0.heap.size ≤ L
  lu : L ≤ U
  uw : U ≤ W.heap.size
  hv : ∀ j, v.ownBlock = some j → j < L ∨ U ≤ j
  ha : ∀ j, vA.ownBlock = some j → j < L
  re : Kd.R Kd.string 9 W w0.heap.size (fun j => some j ≠ v.ownBlock) vX ps
theorem commit_visit.typed {α : Type} {d : Kd α} {e base : Nat} {W : World} {v : Value} {xs : List α} {ok : Nat → Prop} (h : d.R e W base ok v xs) (j : Nat) (hj : v.ownBlock = some j) : base ≤ j ∧ j < W.heap.size ∧ ∃ cells, W.heap[j]? = some (.cells cells e (0, 0)) := by
 obtain ⟨_, ho⟩ := Kd.R_own h
 exact ⟨own_base ho j hj, own_lt ho j hj, own_typed ho j hj⟩
theorem commit_visit.noMap {α : Type} {d : Kd α} {e base B k : Nat} {W : World} {v : Value} {xs : List α} {ok : Nat → Prop} {D : DataW Unit} (h : d.R e W base ok v xs) (hm : W.ownsMap Tryd.prog 9 (plainElem (H := Unit) Tryd.prog 3) B k D) : some B ≠ v.ownBlock := fun e1 => by
  obtain ⟨_, _, cells, hc⟩ := commit_visit.typed h B e1.symm
  obtain ⟨es, clock, hb, _⟩ := hm
  rw [hc] at hb
  cases hb
theorem commit_visit.past {α : Type} {d : Kd α} {e base : Nat} {W w1 : World} {v u : Value} {xs : List α} {ys : List ByteArray} {ok ok2 : Nat → Prop} (hn : Kd.R Kd.string 9 W base ok u ys) (h : d.R e W base ok2 v xs) (he : e ≠ 9) (hg : W.grownBy w1 v.ownBlock) : Kd.R Kd.string 9 w1 base ok u ys :=
  Kd.R_mono (Kd.R_grown (Kd.R_bound hn) hg (fun k hk e1 => by
    obtain ⟨_, _, _, q, hq, cells, hc⟩ := hk
    obtain ⟨_, _, c2, hc2⟩ := commit_visit.typed h k e1.symm
    rw [hc] at hc2
    injection hc2 with hc2
    injection hc2 with _ h2 _
    rw [List.mem_singleton.1 hq] at h2
    exact he h2.symm)) (fun _ hk => hk.1)
section
variable {w0 W w1 : World} {b B g k h L U : Nat} {D : DataW Unit} {vN vA vP v v1 vX : Value} {ps names : List ByteArray} {all : List S24} {c : S24}
theorem commit_visit.Mid.below (H : commit_visit.Mid w0 W b B g k h L U D vN vA vP v vX ps names all c) (hb : Below W.heap.size W w1) : commit_visit.Mid w0 w1 b B g k h L U D vN vA vP v vX ps names all c :=
  ⟨M.rec_below H.blk hb, H.map.kept (grown_of_below hb none) (by simp), Kd.R_below H.rn hb, Kd.R_below H.ra hb, M.rec_below H.rc hb, Kd.R_below H.rp hb, below_then H.low (Nat.le_trans H.ws (Nat.le_trans H.lu H.uw)) hb, H.ws, H.lu, Nat.le_trans H.uw hb.size, H.hv, H.ha, Kd.R_below H.re hb⟩
theorem commit_visit.Mid.app (H : commit_visit.Mid w0 W b B g k h L U D vN vA vP v vX ps names all c) {n : ByteArray} (hR : Kd.R Kd.string 9 w1 w0.heap.size (fun _ => True) v1 (names ++ [n])) (hb : Below w0.heap.size w0 w1) (hg : W.grownBy w1 v.ownBlock)
    (hat : v1.ownBlock = v.ownBlock ∨ ∃ b, v1.ownBlock = some b ∧ W.heap.size ≤ b) : commit_visit.Mid w0 w1 b B g k h L U D vN vA vP v1 vX ps (names ++ [n]) all c := by
 refine ⟨M.rec_grown H.blk hg (commit_visit.nb H.rn H.blk (by decide)), H.map.kept hg (commit_visit.noMap H.rn H.map), hR, ?_, M.rec_grown H.rc hg (commit_visit.nb H.rn H.rc (by decide)), Kd.R_grown H.rp hg ?_, hb, H.ws, H.lu, Nat.le_trans H.uw hg.size, ?_, H.ha, ?_⟩
 ·refine Kd.R_mono (Kd.R_grown (Kd.R_bound H.ra) hg (fun j hj => hj.1)) (fun j hj => ?_)
  rcases hat with e | ⟨q, e, hq⟩
  ·rw [e]; exact hj.1
  ·rw [e]; intro e2; injection e2 with e2; have := hj.2.2.1; omega
 ·intro j hj e
  have := H.hv j e.symm
  omega
 ·intro j hj
  rcases hat with e | ⟨q, e, hq⟩
  ·exact H.hv j (e ▸ hj)
  ·rw [e] at hj; injection hj with hj; exact .inr (hj ▸ Nat.le_trans H.uw hq)
 ·refine Kd.R_mono (Kd.R_grown (Kd.R_bound H.re) hg (fun j hj => hj.1)) (fun j hj => ?_)
  rcases hat with e | ⟨q, e, hq⟩
  ·rw [e]; exact hj.1
  ·rw [e]; intro e2; injection e2 with e2; have := hj.2.2.1; omega
theorem commit_visit.Mid.pm (H : commit_visit.Mid w0 W b B g k h L U D vN vA vP v vX ps names all c) : k24.M W w0.heap.size (fun j => L ≤ j ∧ j < U) c [.int .i64 c.f0, vP, .string c.f2, .string c.f3] := k24_mkM W _ _ c H.rp
theorem commit_visit.Mid.okp (H : commit_visit.Mid w0 W b B g k h L U D vN vA vP v vX ps names all c) (j : Nat) (hj : L ≤ j ∧ j < U) : some j ≠ v.ownBlock ∧ some j ≠ vA.ownBlock :=
  ⟨fun e => by have := H.hv j e.symm; omega, fun e => by have := H.ha j e.symm; omega⟩
theorem commit_visit.Mid.fresh (H : commit_visit.Mid w0 W b B g k h L U D vN vA vP v vX ps names all c) (j : Nat) (hj : W.heap.size ≤ j) : some j ≠ v.ownBlock := fun e => by have := (commit_visit.typed H.rn j e.symm).2.1; omega
theorem commit_visit.Mid.fin (H : commit_visit.Mid w0 W b B g k h L U D vN vA vP v vX ps names all c) {v2 : Value} (hR : Kd.R k24 24 w1 w0.heap.size (fun j => some j ≠ v.ownBlock) v2 (all ++ [c])) (hb : Below w0.heap.size w0 w1) (hg : W.grownBy w1 vA.ownBlock)
    (hsay : ∀ n : ByteArray, D.atKey (.string n.data.toList) (.lit (.int .i64 0)) = .lit (.int .i64 (if M.hasN names n = true then 1 else 0))) (hcnt : k ≤ names.length) (gb : w0.heap.size ≤ b) (gB : w0.heap.size ≤ B) (bB : b ≠ B) :
    commit_visit.Hist w0 ((w1.setCell ⟨b, 2, none⟩ v).setCell ⟨b, 3, none⟩ v2) b B g k D v v2 vX ps ⟨names, all ++ [c], false⟩ := by
 have hblk := M.rec_grown H.blk hg (commit_visit.nb H.ra H.blk (by decide))
 have hN := commit_visit.past H.rn H.ra (by decide) hg
 have hf : ∀ j, j ≠ b → j < w1.heap.size → ((w1.setCell ⟨b, 2, none⟩ v).setCell ⟨b, 3, none⟩ v2).heap[j]? = w1.heap[j]? := fun j hj _ => (Below.heap_setCell _ ⟨b, 3, none⟩ v2 j hj).trans (Below.heap_setCell w1 ⟨b, 2, none⟩ v j hj)
 exact ⟨M.rec_set (M.rec_set hblk 2 v) 3 v2, ((H.map.kept hg (commit_visit.noMap H.ra H.map)).setCell (a := ⟨b, 2, none⟩) bB.symm _).setCell (a := ⟨b, 3, none⟩) bB.symm _, hsay, hcnt, commit_visit.apart hN hblk (by decide) hf, commit_visit.apart hR hblk (by decide) hf, gb, gB, bB, (hb.setCell (p := ⟨b, 2, none⟩) gb _).setCell (p := ⟨b, 3, none⟩) gb _, by simp; exact Nat.le_trans H.ws (Nat.le_trans H.lu (Nat.le_trans H.uw hg.size)), commit_visit.apart (commit_visit.past H.re H.ra (by decide) hg) hblk (by decide) hf⟩
end
section
variable {P : Program} {ops : Array Oper} {o : Oper} {a : Act} {Q : Exit → Act → World → Prop} {Kc : Act → World → Prop}
theorem commit_visit.row1 {W : World} (n : Tmp) (e : TypeId) (cs : List Value) (hd : o.dst = some n) (hw : Region.wanted o (yielded ops a.tmps) = true) (hr : (execOp a.eval o).run P W = .ok (.value (.slice (some ⟨W.heap.size, 0, none⟩) 1 1)) (W.alloc (.cells cs.toArray e)))
    (h : ∀ q w1, M.rec_ w1 q e cs → Below W.heap.size W w1 → Kc (a.put (some n) (.slice (some ⟨q, 0, none⟩) 1 1)) w1) : if Region.wanted o (yielded ops a.tmps) = true then Oper.wp P o a W Kc Q else Kc (a.put (some n) undef) W := by
 rw [if_pos hw]
 unfold Oper.wp
 rw [hr]
 show Kc (a.put o.dst _) _
 rw [hd]
 exact h _ _ (M.rec_new W e cs) (below_alloc (Below.refl _ _) _)
end
end
section
open Go.Maps
theorem commit_visit.told {D : DataW Unit} {names : List ByteArray} (h : ∀ m : ByteArray, D.atKey (.string m.data.toList) (.lit (.int .i64 0)) = .lit (.int .i64 (if M.hasN names m = true then 1 else 0))) (hD : Maps.IsMap D) (n : ByteArray) :
    ∀ m : ByteArray, (D.put (.string n.data.toList) (.lit (.int .i64 1))).atKey (.string m.data.toList) (.lit (.int .i64 0)) = .lit (.int .i64 (if M.hasN (names ++ [n]) m = true then 1 else 0)) := by
 intro m
 have e : M.hasN (names ++ [n]) m = (M.hasN names m || decide (n = m)) := by simp [M.hasN]
 rw [e]
 by_cases hk : n = m
 ·subst hk
  rw [Maps.atKey_put_same hD M.key_lit]
  simp
 ·have hne : (Lit.string m.data.toList) ≠ Lit.string n.data.toList := fun q => hk (by
   injection q with q
   cases n; cases m
   exact congrArg ByteArray.mk (Array.toList_inj.1 q.symm))
  rw [Maps.atKey_put_other hne, h m]
  simp [hk]
theorem commit_visit.notMap {W : World} {q B k t : Nat} {cs : List Value} {D : DataW Unit} (h : M.rec_ W q t cs) (hm : W.ownsMap Tryd.prog 9 (plainElem (H := Unit) Tryd.prog 3) B k D) : q ≠ B := fun e => by
  obtain ⟨es, clock, hb, _⟩ := hm
  rw [← e, show W.heap[q]? = _ from h] at hb
  cases hb
theorem commit_visit.rowMap {α : Type} {d : Kd α} {e base B k : Nat} {W w1 : World} {v : Value} {xs : List α} {ok : Nat → Prop} {D : DataW Unit} (h : d.R e W base ok v xs) (hm : W.ownsMap Tryd.prog 9 (plainElem (H := Unit) Tryd.prog 3) B k D) (hg : W.grownBy w1 (some B)) : d.R e w1 base ok v xs :=
  Kd.R_mono (Kd.R_grown (Kd.R_bound h) hg (fun j hj e1 => by
    obtain ⟨_, _, _, q, hq, cells, hc⟩ := hj
    obtain ⟨es, clock, hb, _⟩ := hm
    injection e1 with e1
    rw [← e1, hc] at hb
    cases hb)) (fun _ hj => hj.1)
theorem commit_visit.mid5 {w0 W w4 w5 : World} {b B g k h : Nat} {D D2 : DataW Unit} {vN vA vP vX : Value} {ps : List ByteArray} {st : M.BS S24} {c : S24} (H : commit_visit.Hist w0 W b B g k D vN vA vX ps st) (hk : M.rec_ W b 90 [.pointer (some ⟨g, 0, none⟩), .map (some B), vN, vA, .int .i64 0])
    (hb : Below W.heap.size W w4) (hc : M.rec_ w4 h 24 [.int .i64 c.f0, vP, .string c.f2, .string c.f3]) (hp : Kd.R Kd.string 9 w4 W.heap.size (fun _ => True) vP c.f1)
    (hm : w5.ownsMap Tryd.prog 9 (plainElem (H := Unit) Tryd.prog 3) B (k + 1) D2) (hg : w4.grownBy w5 (some B)) : commit_visit.Mid w0 w5 b B g (k + 1) h W.heap.size w5.heap.size D2 vN vA vP vN vX ps st.names st.all c := by
 have hm4 := H.map.kept (grown_of_below hb none) (by simp)
 have hp5 := commit_visit.rowMap hp hm4 hg
 exact ⟨M.rec_grown (M.rec_below hk hb) hg (fun e => H.bB (by injection e)), hm, commit_visit.rowMap (Kd.R_below H.rn hb) hm4 hg, commit_visit.rowMap (Kd.R_below H.ra hb) hm4 hg, M.rec_grown hc hg (fun e => commit_visit.notMap hc hm4 (by injection e)),
  Kd.R_lower (Kd.R_mono (Kd.R_bound hp5) (fun j hj => ⟨hj.2.1, hj.2.2.1⟩)) H.ws, (below_then H.low H.ws hb).grown hg (Nat.le_trans H.ws hb.size) (fun j hj => by injection hj with hj; rw [← hj]; exact H.gB), H.ws, Nat.le_trans hb.size hg.size, Nat.le_refl _,
  fun j hj => .inl (commit_visit.typed H.rn j hj).2.1, fun j hj => (commit_visit.typed H.ra j hj).2.1, commit_visit.rowMap (Kd.R_below H.re hb) hm4 hg⟩
def commit_visit.T5 : Bool × List (List Nat × List Nat) := (true, [([], []), ([], []), ([], []), ([2], [2]), ([3], [3]), ([4], [4]), ([], []), ([6], [6]), ([5, 7], [5, 7]), ([], []), ([9], [9]), ([10], [10]), ([11], [11]), ([], []), ([13], [13]), ([12, 14, 8], [12, 14]), ([0, 0, 2, 3, 4, 5, 6, 7, 8, 12, 15], [0]), ([16, 0, 2, 3, 4, 5, 6, 7, 8, 12, 15], [16]), ([17, 8, 15, 0, 2, 3, 4, 5, 6, 7, 8, 12, 15], [8, 17]), ([1, 0, 1, 2, 3, 4, 5, 6, 7, 8, 9, 10, 11, 12, 13, 14, 15, 16, 17, 18], [1]), ([19, 0, 1, 2, 3, 4, 5, 6, 7, 8, 9, 10, 11, 12, 13, 14, 15, 16, 17, 18], [19]), ([20, 15, 18, 0, 1, 2, 3, 4, 5, 6, 7, 8, 9, 10, 11, 12, 13, 14, 15, 16, 17, 18], [15, 20])])
def commit_visit.B5 : List Nat := [0, 0, 0, 4, 12, 28, 0, 64, 252, 0, 512, 1536, 3584, 0, 8192, 32764, 65533, 131069, 262141, 524287, 1048575, 2097151]
theorem commit_visit.tab5 : rtab .any (opsOf Tryd.f48 5) = commit_visit.T5 := by kernel_rfl
theorem commit_visit.bits5 : waitsOk commit_visit.T5.2 commit_visit.B5 = true := by kernel_rfl
set_option maxHeartbeats 8000000 in
set_option maxRecDepth 100000 in
theorem commit_visit.good (w0 W : World) (b B g k : Nat) (D : DataW Unit) (vN vA vX : Value) (ps : List ByteArray) (st : M.BS S24) (n : ByteArray) (base : Nat) (F : Nat → Prop) (s : M.SS) (hz : n.size ≤ 1000000000000) (h : commit_visit.Hist w0 W b B g k D vN vA vX ps st) (hS : M.Sh Tryd.prog base w0 g F s) (hts : ∀ t ∈ s.ts, t.size ≤ 1000000000000) (hm : ¬ M.hasN st.names n = true) (hb : st.bad = false) (c : S24) (hl : commit_visit.ld s n = some c) (hlen : st.names.length = st.all.length) (hmany : st.all.length ≤ 1000000000) :
    Calls Tryd.prog 48 #[.pointer (some ⟨b, 0, none⟩), .string n] W fun e W' => e = .returned (.tuple #[]) ∧ ∃ D' vN' vA', commit_visit.Hist w0 W' b B g (k + 1) D' vN' vA' vX ps ⟨st.names ++ [n], st.all ++ [c], false⟩ := by
 have hKEY := Go.WideMaps.keyOf_string_mk Tryd.underlying9 (show n.size ≤ maxLen from by unfold maxLen; omega)
 have hblk := h.blk
 rw [hb, if_neg (by decide)] at hblk
 obtain ⟨AN, cN, rfl⟩ := Kd.R_slice h.rn
 obtain ⟨AA, cA, rfl⟩ := Kd.R_slice h.ra
 have q0 := M.rec_cell hblk 0 _ rfl
 have q1 := M.rec_cell hblk 1 _ rfl
 have q4 := M.rec_cell hblk 4 _ rfl
 have hown := h.map
 have hs := Aside0.mk (h.says n)
 rw [if_neg hm] at hs
 have HS := Aside0.mk (hS.below h.low)
 have HH := Aside0.mk h
 have HK := Aside0.mk hblk
 have HL := Aside0.mk hl
 have HZ := Aside0.mk hts
 have hkm : k < maxLen := by have := h.cnt; unfold maxLen; omega
 have HSay := Aside0.mk (commit_visit.told h.says h.map.isMap n)
 have HCnt := Aside0.mk (show k + 1 ≤ (st.names ++ [n]).length from by have := h.cnt; simp; omega)
 have HLN := Aside0.mk (show (st.names.length + 1) * 16 ≤ 140737488355328 from by omega)
 have HLA := Aside0.mk (show (st.all.length + 1) * 64 ≤ 140737488355328 from by omega)
 clear h hblk hS hl hts hm hlen hmany
 go_enter Tryd.func48, Tryd.ntmps48
 go_wp2_with (first | (at_lookup; refine wpList_lookup_own_int _ rfl _ _ 78 rfl 9 3 .i64 commit_visit.law Tryd.underlying78 Tryd.underlying3 (commit_visit.zero_ _) B k D rfl hown _ _ rfl hKEY ?_; intro c0 hat hwc; obtain rfl : c0 = 0 := by (have h2 := hs.out.symm.trans hat; injection h2 with h3; injection h3 with _ h4; exact h4.symm)) | (go_at_call 20; (with_reducible refine (commit_visit.l1 base g F s n _ HS.out hz HZ.out c HL.out).mono ?_); rintro e w2 ⟨AP, cP, rfl, hP, hb2⟩; have HB2 := Aside0.mk hb2; have HP := Aside0.mk hP; clear hb2 hP) | ((with_reducible refine gate_store (t := 24) (p := 4) (v := .tmp 27) rfl ?_); refine M.wp_rec_store rfl 24 _ _ rfl w2.heap.size 24 commit_Load.zero_ [.int .i64 c.f0, .slice AP c.f1.length cP, .string c.f2, .string c.f3] rfl rfl (M.rec_new w2 24 commit_Load.zero_) rfl commit_Load.size_ rfl ?_; intro w4 hA4 hF4 hB4 hz4; have HB4 := Aside0.mk (below_step HB2.out (hB4 _ _ (Nat.le_refl _) (below_alloc (Below.refl w2.heap.size w2) _))); have HC4 := Aside0.mk hA4; have HP4 := Aside0.mk (Kd.R_step HP.out (fun j _ hlt => (hF4 j (Nat.ne_of_lt hlt)).trans (Below.heap_alloc w2 _ j hlt))); have p1 := M.rec_cell (M.rec_below HK.out HB4.out) 1 _ rfl; have hown4 := HH.out.map.kept (grown_of_below HB4.out none) (by simp); clear hA4 hF4 hB4 hz4) | (at_mapUpdate; refine wpList_mapUpdate_own _ rfl _ _ _ 78 rfl 9 3 commit_visit.law Tryd.underlying78 _ B k D rfl hown4 hkm _ _ (.string n.data.toList) rfl rfl hKEY (.lit (.int .i64 1)) [] (plainElem_int (q := .i64) Tryd.underlying3 (WalkArith.wf_i64 (by decide))) ?_; intro w5 hown5 hgr5))
 have hM5 := commit_visit.mid5 HH.out HK.out HB4.out HC4.out HP4.out hown5 hgr5
 have hMd := hM5.below (below_drew1 (Below.refl _ _))
 clear hown5 hgr5 hown hown4 q0 q1 q4 p1
 refine start_ (n := 22) (S := fun w' => w'.cell? ⟨b, 2, none⟩ = some (.slice AN st.names.length cN) ∧ w'.cell? ⟨b, 3, none⟩ = some (.slice AA st.all.length cA) ∧ w'.cell? ⟨w2.heap.size, 0, none⟩ = some (.int .i64 c.f0) ∧ w'.cell? ⟨w2.heap.size, 1, none⟩ = some (.slice AP c.f1.length cP) ∧ w'.cell? ⟨w2.heap.size, 2, none⟩ = some (.string c.f2) ∧ w'.cell? ⟨w2.heap.size, 3, none⟩ = some (.string c.f3)) (ds := [15, 18, 21]) (M.tf [0, 22]) (by kernel_rfl) rfl rfl ⟨M.rec_cell hMd.blk 2 _ rfl, M.rec_cell hMd.blk 3 _ rfl, M.rec_cell hMd.rc 0 _ rfl, M.rec_cell hMd.rc 1 _ rfl, M.rec_cell hMd.rc 2 _ rfl, M.rec_cell hMd.rc 3 _ rfl⟩ (fun hHeld => ?_)
 refine with_tabW commit_visit.tab5 commit_visit.bits5 (fun HT_ HW_ => ?_)
 refine M.pu 0 40 [1, 21] HT_ ?_
 refine M.pu 1 41 [2, 20] HT_ ?_
 refine M.pu 2 42 [3, 19] HT_ ?_
 refine M.pu 3 43 [4, 18] HT_ ?_
 refine M.pu 4 44 [5, 17] HT_ ?_
 refine M.pu 6 46 [5, 1, 1, 15] HT_ ?_
 refine M.pu 9 49 [5, 1, 1, 2, 1, 12] HT_ ?_
 refine M.pu 10 50 [5, 1, 1, 2, 2, 11] HT_ ?_
 refine M.pu 11 51 [5, 1, 1, 2, 3, 10] HT_ ?_
 refine M.tk 5 45 [7, 2, 3, 10] HT_ HW_ hHeld ?_
 refine M.tk 12 52 [7, 2, 4, 9] HT_ HW_ hHeld ?_
 refine M.tk 13 53 [7, 2, 5, 8] HT_ HW_ hHeld ?_
 refine join_ (σ := Nat × Value × Nat) 7 (M.tf [15, 7]) (fun s => [(47, .slice (some ⟨s.1, 0, none⟩) 1 1), (48, s.2.1), (54, .slice (some ⟨s.2.2, 0, none⟩) 1 1)]) (fun s w' => commit_visit.Mid w0 w' b B g (k + 1) w2.heap.size W.heap.size w5.heap.size (D.put (.string n.data.toList) (.lit (.int .i64 1))) (.slice AN st.names.length cN) (.slice AA st.all.length cA) (.slice AP c.f1.length cP) s.2.1 vX ps (st.names ++ [n]) st.all c ∧ M.rec_ w' s.2.2 24 [.int .i64 c.f0, .slice AP c.f1.length cP, .string c.f2, .string c.f3]) ?_ ?_
 rotate_left
 ·intro hCont
  refine two_ (i := 7) (j := 14) (Ni := some 47) (Nj := some 54) (M.tf [8, 1, 5, 8]) (M.tf [7, 2, 6, 7]) rfl rfl rfl rfl (two_of HT_.out (by kernel_rfl)) (by decide) (by decide) (fun K hK => ?_) (fun K hK => ?_)
  ·skip
   refine commit_visit.row1 47 9 [.string n] (by rfl) (by rfl) (by go_simp; try rfl) ?_
   intro q7_ w7_ hN7 hb7_
   have hM7 := hMd.below hb7_
   refine hK.out _ _ ⟨M.rec_cell hM7.blk 2 _ rfl, M.rec_cell hM7.blk 3 _ rfl, M.rec_cell hM7.rc 0 _ rfl, M.rec_cell hM7.rc 1 _ rfl, M.rec_cell hM7.rc 2 _ rfl, M.rec_cell hM7.rc 3 _ rfl⟩ (fun hHeld => ?_)
   clear hK K
   refine norm_ (a' := ?_) ?_ ?_
   rotate_left
   ·show Act.put _ (some 47) _ = _
    simp only [Act.put, List.setIfInBounds_toArray, List.set_cons_zero, List.set_cons_succ, i64_w, i32_w]
    rfl
   refine two_ (i := 8) (j := 14) (Ni := some 48) (Nj := some 54) (M.tf [14, 8]) (M.tf [8, 1, 6, 7]) rfl rfl rfl rfl (two_of HT_.out (by kernel_rfl)) (by decide) (by decide) (fun K hK => ?_) (fun K hK => ?_)
   ·skip
    refine commit_visit.app Kd.string (w0 := w0) w0.heap.size (by rfl) (.tmp 45) (.tmp 47) _ 9 rfl Tryd.underlying22 _ _ shelf_Shelf_Put.i9 rfl (by decide) (by decide) (.slice AN st.names.length cN) st.names n [.string n] q7_ (fun _ => True) (fun _ => False) (by rfl) (by rfl) hM7.rn hN7 rfl (by exact rfl) (fun _ h => h.elim) (fun _ _ => trivial) hM7.low (Nat.le_trans hM7.ws (Nat.le_trans hM7.lu hM7.uw)) HLN.out ?_
    intro v8_ w8_ hR8 hb8_ hg8_ hat8_
    have hM8 := hM7.app hR8 hb8_ hg8_ hat8_
    refine hK.out _ _ ⟨M.rec_cell hM8.blk 2 _ rfl, M.rec_cell hM8.blk 3 _ rfl, M.rec_cell hM8.rc 0 _ rfl, M.rec_cell hM8.rc 1 _ rfl, M.rec_cell hM8.rc 2 _ rfl, M.rec_cell hM8.rc 3 _ rfl⟩ (fun hHeld => ?_)
    clear hK K
    refine norm_ (a' := ?_) ?_ ?_
    rotate_left
    ·show Act.put _ (some 48) _ = _
     simp only [Act.put, List.setIfInBounds_toArray, List.set_cons_zero, List.set_cons_succ, i64_w, i32_w]
     rfl
    refine one_ (i := 14) (N := some 54) (M.tf [15, 7]) rfl rfl (one_of HT_.out (by kernel_rfl)) (by decide) (fun K hK => ?_)
    refine commit_visit.row1 54 24 [.int .i64 c.f0, .slice AP c.f1.length cP, .string c.f2, .string c.f3] (by rfl) (by rfl) (by go_simp; try rfl) ?_
    intro q14_ w14_ hC14 hb14_
    have hM14 := hM8.below hb14_
    refine hK.out _ _ ⟨M.rec_cell hM14.blk 2 _ rfl, M.rec_cell hM14.blk 3 _ rfl, M.rec_cell hM14.rc 0 _ rfl, M.rec_cell hM14.rc 1 _ rfl, M.rec_cell hM14.rc 2 _ rfl, M.rec_cell hM14.rc 3 _ rfl⟩ (fun hHeld => ?_)
    clear hK K
    refine norm_ (a' := ?_) ?_ ?_
    rotate_left
    ·show Act.put _ (some 54) _ = _
     simp only [Act.put, List.setIfInBounds_toArray, List.set_cons_zero, List.set_cons_succ, i64_w, i32_w]
     rfl
    exact norm_ (by simp only [putAll, Act.put, List.setIfInBounds_toArray, List.set_cons_zero, List.set_cons_succ]) (hCont ⟨q7_, v8_, q14_⟩ _ ⟨hM14, hC14⟩)
   ·skip
    refine commit_visit.row1 54 24 [.int .i64 c.f0, .slice AP c.f1.length cP, .string c.f2, .string c.f3] (by rfl) (by rfl) (by go_simp; try rfl) ?_
    intro q14_ w14_ hC14 hb14_
    have hM14 := hM7.below hb14_
    have hN14 := M.rec_below hN7 hb14_
    refine hK.out _ _ ⟨M.rec_cell hM14.blk 2 _ rfl, M.rec_cell hM14.blk 3 _ rfl, M.rec_cell hM14.rc 0 _ rfl, M.rec_cell hM14.rc 1 _ rfl, M.rec_cell hM14.rc 2 _ rfl, M.rec_cell hM14.rc 3 _ rfl⟩ (fun hHeld => ?_)
    clear hK K
    refine norm_ (a' := ?_) ?_ ?_
    rotate_left
    ·show Act.put _ (some 54) _ = _
     simp only [Act.put, List.setIfInBounds_toArray, List.set_cons_zero, List.set_cons_succ, i64_w, i32_w]
     rfl
    refine one_ (i := 8) (N := some 48) (M.tf [15, 7]) rfl rfl (one_of HT_.out (by kernel_rfl)) (by decide) (fun K hK => ?_)
    refine commit_visit.app Kd.string (w0 := w0) w0.heap.size (by rfl) (.tmp 45) (.tmp 47) _ 9 rfl Tryd.underlying22 _ _ shelf_Shelf_Put.i9 rfl (by decide) (by decide) (.slice AN st.names.length cN) st.names n [.string n] q7_ (fun _ => True) (fun _ => False) (by rfl) (by rfl) hM14.rn hN14 rfl (by exact rfl) (fun _ h => h.elim) (fun _ _ => trivial) hM14.low (Nat.le_trans hM14.ws (Nat.le_trans hM14.lu hM14.uw)) HLN.out ?_
    intro v8_ w8_ hR8 hb8_ hg8_ hat8_
    have hM8 := hM14.app hR8 hb8_ hg8_ hat8_
    have hC8 := M.rec_grown hC14 hg8_ (commit_visit.nb hM14.rn hC14 (by decide))
    refine hK.out _ _ ⟨M.rec_cell hM8.blk 2 _ rfl, M.rec_cell hM8.blk 3 _ rfl, M.rec_cell hM8.rc 0 _ rfl, M.rec_cell hM8.rc 1 _ rfl, M.rec_cell hM8.rc 2 _ rfl, M.rec_cell hM8.rc 3 _ rfl⟩ (fun hHeld => ?_)
    clear hK K
    refine norm_ (a' := ?_) ?_ ?_
    rotate_left
    ·show Act.put _ (some 48) _ = _
     simp only [Act.put, List.setIfInBounds_toArray, List.set_cons_zero, List.set_cons_succ, i64_w, i32_w]
     rfl
    exact norm_ (by simp only [putAll, Act.put, List.setIfInBounds_toArray, List.set_cons_zero, List.set_cons_succ]) (hCont ⟨q7_, v8_, q14_⟩ _ ⟨hM8, hC8⟩)
  ·skip
   refine commit_visit.row1 54 24 [.int .i64 c.f0, .slice AP c.f1.length cP, .string c.f2, .string c.f3] (by rfl) (by rfl) (by go_simp; try rfl) ?_
   intro q14_ w14_ hC14 hb14_
   have hM14 := hMd.below hb14_
   refine hK.out _ _ ⟨M.rec_cell hM14.blk 2 _ rfl, M.rec_cell hM14.blk 3 _ rfl, M.rec_cell hM14.rc 0 _ rfl, M.rec_cell hM14.rc 1 _ rfl, M.rec_cell hM14.rc 2 _ rfl, M.rec_cell hM14.rc 3 _ rfl⟩ (fun hHeld => ?_)
   clear hK K
   refine norm_ (a' := ?_) ?_ ?_
   rotate_left
   ·show Act.put _ (some 54) _ = _
    simp only [Act.put, List.setIfInBounds_toArray, List.set_cons_zero, List.set_cons_succ, i64_w, i32_w]
    rfl
   refine one_ (i := 7) (N := some 47) (M.tf [8, 1, 6, 7]) rfl rfl (one_of HT_.out (by kernel_rfl)) (by decide) (fun K hK => ?_)
   refine commit_visit.row1 47 9 [.string n] (by rfl) (by rfl) (by go_simp; try rfl) ?_
   intro q7_ w7_ hN7 hb7_
   have hM7 := hM14.below hb7_
   have hC7 := M.rec_below hC14 hb7_
   refine hK.out _ _ ⟨M.rec_cell hM7.blk 2 _ rfl, M.rec_cell hM7.blk 3 _ rfl, M.rec_cell hM7.rc 0 _ rfl, M.rec_cell hM7.rc 1 _ rfl, M.rec_cell hM7.rc 2 _ rfl, M.rec_cell hM7.rc 3 _ rfl⟩ (fun hHeld => ?_)
   clear hK K
   refine norm_ (a' := ?_) ?_ ?_
   rotate_left
   ·show Act.put _ (some 47) _ = _
    simp only [Act.put, List.setIfInBounds_toArray, List.set_cons_zero, List.set_cons_succ, i64_w, i32_w]
    rfl
   refine one_ (i := 8) (N := some 48) (M.tf [15, 7]) rfl rfl (one_of HT_.out (by kernel_rfl)) (by decide) (fun K hK => ?_)
   refine commit_visit.app Kd.string (w0 := w0) w0.heap.size (by rfl) (.tmp 45) (.tmp 47) _ 9 rfl Tryd.underlying22 _ _ shelf_Shelf_Put.i9 rfl (by decide) (by decide) (.slice AN st.names.length cN) st.names n [.string n] q7_ (fun _ => True) (fun _ => False) (by rfl) (by rfl) hM7.rn hN7 rfl (by exact rfl) (fun _ h => h.elim) (fun _ _ => trivial) hM7.low (Nat.le_trans hM7.ws (Nat.le_trans hM7.lu hM7.uw)) HLN.out ?_
   intro v8_ w8_ hR8 hb8_ hg8_ hat8_
   have hM8 := hM7.app hR8 hb8_ hg8_ hat8_
   have hC8 := M.rec_grown hC7 hg8_ (commit_visit.nb hM7.rn hC7 (by decide))
   refine hK.out _ _ ⟨M.rec_cell hM8.blk 2 _ rfl, M.rec_cell hM8.blk 3 _ rfl, M.rec_cell hM8.rc 0 _ rfl, M.rec_cell hM8.rc 1 _ rfl, M.rec_cell hM8.rc 2 _ rfl, M.rec_cell hM8.rc 3 _ rfl⟩ (fun hHeld => ?_)
   clear hK K
   refine norm_ (a' := ?_) ?_ ?_
   rotate_left
   ·show Act.put _ (some 48) _ = _
    simp only [Act.put, List.setIfInBounds_toArray, List.set_cons_zero, List.set_cons_succ, i64_w, i32_w]
    rfl
   exact norm_ (by simp only [putAll, Act.put, List.setIfInBounds_toArray, List.set_cons_zero, List.set_cons_succ]) (hCont ⟨q7_, v8_, q14_⟩ _ ⟨hM8, hC8⟩)
 rintro ⟨q7_, v8_, q14_⟩ wF ⟨hMF, hCF⟩
 dsimp only at hMF hCF
 obtain ⟨A8_, c8_, rfl⟩ := Kd.R_slice hMF.rn
 have hHeld : wF.cell? ⟨b, 2, none⟩ = some (.slice AN st.names.length cN) ∧ wF.cell? ⟨b, 3, none⟩ = some (.slice AA st.all.length cA) ∧ wF.cell? ⟨w2.heap.size, 0, none⟩ = some (.int .i64 c.f0) ∧ wF.cell? ⟨w2.heap.size, 1, none⟩ = some (.slice AP c.f1.length cP) ∧ wF.cell? ⟨w2.heap.size, 2, none⟩ = some (.string c.f2) ∧ wF.cell? ⟨w2.heap.size, 3, none⟩ = some (.string c.f3) := ⟨M.rec_cell hMF.blk 2 _ rfl, M.rec_cell hMF.blk 3 _ rfl, M.rec_cell hMF.rc 0 _ rfl, M.rec_cell hMF.rc 1 _ rfl, M.rec_cell hMF.rc 2 _ rfl, M.rec_cell hMF.rc 3 _ rfl⟩
 refine norm_ (a' := ?_) ?_ ?_
 rotate_left
 ·simp only [putAll, Act.put, List.setIfInBounds_toArray, List.set_cons_zero, List.set_cons_succ]
  rfl
 refine last_ (i := 15) (N := some 55) (M.tf [16, 6]) rfl rfl (one_of HT_.out (by kernel_rfl)) (by decide) (fun K hK => ?_)
 refine commit_visit.app k24 (w0 := w0) w0.heap.size (by rfl) (.tmp 52) (.tmp 54) _ 24 rfl Tryd.underlying49 _ _ commit_visit.i24 rfl (by decide) (by decide) (.slice AA st.all.length cA) st.all c [.int .i64 c.f0, .slice AP c.f1.length cP, .string c.f2, .string c.f3] q14_ (fun j => some j ≠ (Value.slice A8_ (st.names ++ [n]).length c8_).ownBlock) (fun j => W.heap.size ≤ j ∧ j < w5.heap.size) (by rfl) (by rfl) hMF.ra hCF rfl hMF.pm hMF.okp hMF.fresh hMF.low (Nat.le_trans hMF.ws (Nat.le_trans hMF.lu hMF.uw)) HLA.out ?_
 intro v15_ w15_ hR15 hb15_ hg15_ _
 obtain ⟨A15_, c15_, rfl⟩ := Kd.R_slice hR15
 have hk15 := M.rec_grown hMF.blk hg15_ (commit_visit.nb hMF.ra hMF.blk (by decide))
 have j2_ : w15_.cell? ⟨b, 2, none⟩ = some (.slice AN st.names.length cN) := M.rec_cell hk15 2 _ rfl
 have j3_ : w15_.cell? ⟨b, 3, none⟩ = some (.slice AA st.all.length cA) := M.rec_cell hk15 3 _ rfl
 have f2_ := M.rec_free hk15 2
 have f3_ := M.rec_free hk15 3
 refine hK.out _ _ ?_
 clear hK K
 refine norm_ (a' := ?_) ?_ ?_
 rotate_left
 ·show Act.put _ (some 55) _ = _
  simp only [Act.put, List.setIfInBounds_toArray, List.set_cons_zero, List.set_cons_succ, i64_w, i32_w]
  rfl
 refine M.pu 16 56 [17, 5] HT_ ?_
 refine M.pu 17 57 [18, 4] HT_ ?_
 refine last_ (i := 18) (N := none) (M.tf [19, 3]) rfl rfl (one_of HT_.out (by kernel_rfl)) (by decide) (fun K hK => ?_)
 refine skip_ (w1 := ?_) (by rfl) rfl ?_ ?_
 rotate_left
 ·go_simp
  rfl
 refine hK.out _ _ ?_
 clear hK K
 refine M.pu 19 58 [20, 2] HT_ ?_
 refine M.pu 20 59 [21, 1] HT_ ?_
 refine last_ (i := 21) (N := none) (M.tf [22]) rfl rfl (one_of HT_.out (by kernel_rfl)) (by decide) (fun K hK => ?_)
 refine skip_ (w1 := ?_) (by rfl) rfl ?_ ?_
 rotate_left
 ·go_simp
  rfl
 refine hK.out _ _ ?_
 clear hK K
 refine done_ (done_of HT_.out (by kernel_rfl)) ?_
 first | go_end0 | ((try simp only [Exit.inBlock, Exit.then]); refine bodyPost_ret (results_none rfl _ _ _) rfl ?_)
 have hE := hMF.fin hR15 hb15_ hg15_ HSay.out HCnt.out HH.out.gb HH.out.gB HH.out.bB
 rw [show (st.names ++ [n]).length = st.names.length + 1 from by simp, show (st.all ++ [c]).length = st.all.length + 1 from by simp] at hE
 exact ⟨rfl, _, _, _, hE⟩
def commit_visit.In (w0 W : World) (b g : Nat) (vX : Value) (ps : List ByteArray) (st : M.BS S24) : Prop := ∃ B k D vN vA, commit_visit.Hist w0 W b B g k D vN vA vX ps st
theorem commit_visit.step (w0 W : World) (b g : Nat) (vX : Value) (ps : List ByteArray) (st : M.BS S24) (n : ByteArray) (base : Nat) (F : Nat → Prop) (s : M.SS) (hz : n.size ≤ 1000000000000) (h : commit_visit.In w0 W b g vX ps st) (hS : M.Sh Tryd.prog base w0 g F s) (hts : ∀ t ∈ s.ts, t.size ≤ 1000000000000) (hlen : st.names.length = st.all.length) (hmany : st.all.length ≤ 1000000000) :
    Calls Tryd.prog 48 #[.pointer (some ⟨b, 0, none⟩), .string n] W fun e W' => e = .returned (.tuple #[]) ∧ commit_visit.In w0 W' b g vX ps (M.BS.step (commit_visit.ld s) st n) := by
 obtain ⟨B, k, D, vN, vA, h⟩ := h
 unfold M.BS.step
 by_cases hc : M.hasN st.names n = true ∨ st.bad = true
 ·rw [if_pos hc]
  refine (commit_visit.met w0 W b B g k D vN vA vX ps st n hz h hc).mono ?_
  rintro e W' ⟨rfl, rfl⟩
  exact ⟨rfl, B, k, D, vN, vA, h⟩
 ·rw [if_neg hc]
  have hm : ¬ M.hasN st.names n = true := fun e => hc (.inl e)
  have hb : st.bad = false := by
   cases hb : st.bad with
   | false => rfl
   | true => exact absurd (.inr hb) hc
  cases hl : commit_visit.ld s n with
  | none =>
   refine (commit_visit.fail w0 W b B g k D vN vA vX ps st n base F s hz h hS hts hm hb hl).mono ?_
   rintro e W' ⟨rfl, h2⟩
   exact ⟨rfl, B, k, D, vN, vA, h2⟩
  | some c =>
   refine (commit_visit.good w0 W b B g k D vN vA vX ps st n base F s hz h hS hts hm hb c hl hlen hmany).mono ?_
   rintro e W' ⟨rfl, D2, v2, v3, h2⟩
   exact ⟨rfl, B, k + 1, D2, v2, v3, h2⟩
end
section
open Go.Maps
def commit_Back.st (s : M.SS) (names : List ByteArray) : M.BS S24 := M.BS.walk (commit_visit.ld s) (fun c => c.f1) (s.ts.length + 1) 0 (names.foldl (M.BS.step (commit_visit.ld s)) ⟨[], [], false⟩)
def commit_Back.num (s : M.SS) (p : ByteArray) : Int := match commit_visit.ld s p with | some c => c.f0 | none => 0
def commit_Back.bad1 (s : M.SS) (c : S24) (p : ByteArray) : Bool := decide (c.f0 ≤ commit_Back.num s p)
def commit_Back.rotC (s : M.SS) (c : S24) : Bool := c.f1.any (commit_Back.bad1 s c)
def commit_Back.res (s : M.SS) (names : List ByteArray) : List ByteArray × List S24 × Int :=
  let t := commit_Back.st s names
  if t.bad = true then ([], [], 13) else if t.all.any (commit_Back.rotC s) = true then ([], [], 16) else (t.names, t.all, 0)
theorem commit_Back.ld_in (s : M.SS) (n : ByteArray) (c : S24) (h : commit_visit.ld s n = some c) : n ∈ s.ts.map M.shaSum ∧ ∀ p ∈ c.f1, p.size ≤ 1000000000000 := by
 unfold commit_visit.ld at h
 split at h
 ·rename_i hc
  obtain ⟨h1, h2⟩ := hc
  obtain rfl := Option.some.inj h
  refine ⟨?_, fun p hp => ?_⟩
  ·unfold M.SS.get at h1
   cases hi : M.idx (s.ts.map M.shaSum) n.data.toList with
   | none => rw [hi] at h1; cases h1
   | some i =>
    obtain ⟨hlt, he⟩ := M.idx_lt hi
    have : (s.ts.map M.shaSum).getD i ByteArray.empty = n := by
     revert he
     generalize (s.ts.map M.shaSum).getD i ByteArray.empty = m
     intro he
     cases m; cases n
     exact congrArg ByteArray.mk (Array.toList_inj.1 he)
    rw [← this]
    exact M.getD_mem hlt
  ·have : p.size = 32 := h2.2.2.2.2.2.2.1 p hp
   omega
 ·cases h
theorem commit_Back.inv (s : M.SS) (names : List ByteArray) : M.BS.Inv (commit_visit.ld s) (s.ts.map M.shaSum) (names.foldl (M.BS.step (commit_visit.ld s)) ⟨[], [], false⟩) :=
  M.BS.Inv.fold (commit_visit.ld s) (fun n c h => (commit_Back.ld_in s n c h).1) names (M.BS.inv0 _ _)
theorem commit_Back.few (s : M.SS) {st : M.BS S24} (h : M.BS.Inv (commit_visit.ld s) (s.ts.map M.shaSum) st) : st.all.length ≤ s.ts.length := by
 have := h.few
 rwa [List.length_map] at this
theorem commit_Back.mem (s : M.SS) {st : M.BS S24} (h : M.BS.Inv (commit_visit.ld s) (s.ts.map M.shaSum) st) (i : Nat) (hi : i < st.all.length) : ∀ p ∈ (st.all[i]).f1, p.size ≤ 1000000000000 := by
 have h1 := h.says i (by rw [h.len]; exact hi)
 rw [List.getElem?_eq_getElem hi] at h1
 exact (commit_Back.ld_in s _ _ h1).2
theorem commit_Back.walk_stop (s : M.SS) (st : M.BS S24) (i : Nat) (h : ¬ (i < st.all.length ∧ st.bad = false)) : ∀ f, M.BS.walk (commit_visit.ld s) (fun c => c.f1) f i st = st
  | 0 => rfl
  | f + 1 => by rw [M.BS.walk, dif_neg h]
theorem commit_Back.says0 : ∀ n : ByteArray, (DataW.map [] : DataW Unit).atKey (.string n.data.toList) (.lit (.int .i64 0)) = .lit (.int .i64 (if M.hasN [] n = true then 1 else 0)) := fun n => rfl
theorem commit_Back.start (w : World) (g : Nat) : commit_visit.In w ((w.alloc (.map #[] 0)).alloc (.cells #[.pointer (some ⟨g, 0, none⟩), .map (some w.heap.size), .slice none 0 0, .slice none 0 0, .int .i64 0] 90)) (w.heap.size + 1) g (.slice none 0 0) [] ⟨[], [], false⟩ := by
 refine ⟨w.heap.size, 0, .map [], .slice none 0 0, .slice none 0 0, ?_, ?_, commit_Back.says0, Nat.le_refl _, Kd.R_nil _ _ _ _ _, Kd.R_nil _ _ _ _ _, Nat.le_succ _, Nat.le_refl _, Nat.succ_ne_self _, below_alloc (below_alloc (Below.refl _ _) _) _, by simp; omega, Kd.R_nil _ _ _ _ _⟩
 ·have h := M.rec_new (w.alloc (.map #[] 0)) 90 [.pointer (some ⟨g, 0, none⟩), .map (some w.heap.size), .slice none 0 0, .slice none 0 0, .int .i64 0]
  rw [show (w.alloc (.map #[] 0)).heap.size = w.heap.size + 1 from by simp] at h
  exact h
 ·exact (World.ownsMap_made w _ _ _).alloc _
theorem commit_Back.par {w0 W : World} {b B g k : Nat} {D : DataW Unit} {vN vA vX : Value} {ps : List ByteArray} {st : M.BS S24} (H : commit_visit.Hist w0 W b B g k D vN vA vX ps st) (i : Nat) (hi : i < st.all.length) :
    ∃ ad A1 c1 cA, vA = .slice (some ad) st.all.length cA ∧ W.cell? ((ad.add (i * 4))) = some (.int .i64 (st.all[i]).f0) ∧ W.cell? ⟨(ad.add (i * 4)).block, (ad.add (i * 4)).off + 1, none⟩ = some (.slice A1 (st.all[i]).f1.length c1) ∧ W.cell? ⟨(ad.add (i * 4)).block, (ad.add (i * 4)).off + 2, none⟩ = some (.string (st.all[i]).f2) ∧ W.cell? ⟨(ad.add (i * 4)).block, (ad.add (i * 4)).off + 3, none⟩ = some (.string (st.all[i]).f3) ∧ Kd.R Kd.string 9 W w0.heap.size (fun j => some j ≠ vN.ownBlock) (.slice A1 (st.all[i]).f1.length c1) (st.all[i]).f1 := by
 obtain ⟨A, cA, rfl, hc, hr⟩ := OwnRow.reads H.ra.2
 obtain ⟨ad, cs, rfl, hl, hM, hcell⟩ := ReadsRow.get_ hr z24 (i : Int) (by omega) (by omega)
 rw [Int.toNat_natCast] at hM hcell
 have e : st.all.getD i z24 = st.all[i] := by simp [List.getD, hi]
 rw [e] at hM
 obtain ⟨v1, rfl, hR⟩ := k24_openM hM
 obtain ⟨A1, c1, rfl⟩ := Kd.R_slice hR
 exact ⟨ad, A1, c1, cA, rfl, hcell 0 _ rfl, by rw [← add_field _ _ 1 (by omega)]; exact hcell 1 _ rfl, by rw [← add_field _ _ 2 (by omega)]; exact hcell 2 _ rfl, by rw [← add_field _ _ 3 (by omega)]; exact hcell 3 _ rfl, Kd.R_mono hR (fun j hj => hj.1)⟩
end
section
open Go.Maps
theorem commit_Back.low {w0 W : World} {b g : Nat} {vX : Value} {ps : List ByteArray} {st : M.BS S24} (h : commit_visit.In w0 W b g vX ps st) : Below w0.heap.size w0 W := by
 obtain ⟨_, _, _, _, _, h⟩ := h
 exact h.low
theorem commit_Back.fold1 (s : M.SS) (names : List ByteArray) (st : M.BS S24) (k : Nat) (hk : k < names.length) : (names.take (k + 1)).foldl (M.BS.step (commit_visit.ld s)) st = M.BS.step (commit_visit.ld s) ((names.take k).foldl (M.BS.step (commit_visit.ld s)) st) names[k] := by
 rw [List.take_succ_eq_append_getElem hk, List.foldl_append]
 rfl
theorem commit_Back.walk_step (s : M.SS) (st : M.BS S24) (i f : Nat) (hi : i < st.all.length) (hb : st.bad = false) : M.BS.walk (commit_visit.ld s) (fun c => c.f1) (f + 1) i st = M.BS.walk (commit_visit.ld s) (fun c => c.f1) f (i + 1) ((st.all[i]).f1.foldl (M.BS.step (commit_visit.ld s)) st) := by
 rw [M.BS.walk, dif_pos ⟨hi, hb⟩]
theorem commit_Back.drop {w0 W : World} {b g : Nat} {vX : Value} {ps : List ByteArray} {st : M.BS S24} (h : commit_visit.In w0 W b g vX ps st) : commit_visit.In w0 W b g (.slice none 0 0) [] st := by
 obtain ⟨B, k, D, vN, vA, h⟩ := h
 exact ⟨B, k, D, vN, vA, h.blk, h.map, h.says, h.cnt, h.rn, h.ra, h.gb, h.gB, h.bB, h.low, h.ws, Kd.R_nil _ _ _ _ _⟩
theorem commit_Back.row {w0 W : World} {b g : Nat} {vX : Value} {ps : List ByteArray} {st : M.BS S24} (h : commit_visit.In w0 W b g vX ps st) (j : Nat) (hj : j < ps.length) : ∃ ad c, vX = .slice (some ad) ps.length c ∧ W.cell? (ad.add j) = some (.string ps[j]) := by
 obtain ⟨B, k, D, vN, vA, h⟩ := h
 obtain ⟨A, c, rfl, hc, hr⟩ := Kd.R_reads h.re
 obtain ⟨ad, rfl, e0⟩ := Kd.at_string hr (j : Int) (by omega) (by omega)
 rw [show rdOf ByteArray.empty ps (j : Int) = ps[j] from by simp [rdOf, List.getD, hj], Int.toNat_natCast] at e0
 exact ⟨ad, c, rfl, e0⟩
theorem commit_Back.ldn (base g : Nat) (F : Nat → Prop) (s : M.SS) (n : ByteArray) (w : World) (hS : M.Sh Tryd.prog base w g F s) (hz : n.size ≤ 1000000000000) (hts : ∀ t ∈ s.ts, t.size ≤ 1000000000000) :
    Calls Tryd.prog 20 #[.pointer (some ⟨g, 0, none⟩), .string n] w fun e w' => ∃ A m d y z er, e = .returned (.tuple #[.agg #[.int .i64 (commit_Back.num s n), .slice A m d, .string y, .string z], .int .i64 er]) ∧ Below w.heap.size w w' := by
 unfold commit_Back.num
 cases h : commit_visit.ld s n with
 | none =>
  refine (commit_visit.l0 base g F s n w hS hz hts h).mono ?_
  rintro e w' ⟨rfl, hb⟩
  exact ⟨_, _, _, _, _, _, rfl, hb⟩
 | some c =>
  refine (commit_visit.l1 base g F s n w hS hz hts c h).mono ?_
  rintro e w' ⟨A, d, rfl, _, hb⟩
  exact ⟨_, _, _, _, _, _, rfl, hb⟩
theorem commit_Back.any1 {α : Type} (f : α → Bool) (l : List α) (k : Nat) (hk : k < l.length) (h : (l.take k).any f = false) (hf : f l[k] = false) : (l.take (k + 1)).any f = false := by
 rw [List.take_succ_eq_append_getElem hk, List.any_append, h]
 simp [hf]
theorem commit_Back.hit {α : Type} (f : α → Bool) (l : List α) (k : Nat) (hk : k < l.length) (hf : f l[k] = true) : l.any f = true := List.any_eq_true.2 ⟨_, List.getElem_mem hk, hf⟩
set_option maxHeartbeats 8000000 in
set_option maxRecDepth 100000 in
theorem commit_Back.any (base g : Nat) (F : Nat → Prop) (s : M.SS) (A : Option Addr) (c : Nat) (names : List ByteArray) (w : World) (hS : M.Sh Tryd.prog base w g F s) (hts : ∀ t ∈ s.ts, t.size ≤ 1000000000000) (hl : s.ts.length ≤ 1000000000) (hn : Kd.C Kd.string w A names.length names) (hz : ∀ n ∈ names, n.size ≤ 1000000000000) :
    Calls Tryd.prog 24 #[.pointer (some ⟨g, 0, none⟩), .slice A names.length c] w fun e w' => ∃ v1 v2, e = .returned (.tuple #[v1, v2, .int .i64 (commit_Back.res s names).2.2]) ∧ Kd.R Kd.string 9 w' w.heap.size (fun _ => True) v1 (commit_Back.res s names).1 ∧ Kd.R k24 24 w' w.heap.size (fun _ => True) v2 (commit_Back.res s names).2.1 ∧ Below w.heap.size w w' := by
 have hmm := @run_makeMap Tryd.prog
 obtain ⟨W0, hW0⟩ : ∃ W0, ((w.alloc (.map #[] 0)).alloc (.cells #[.pointer (some ⟨g, 0, none⟩), .map (some w.heap.size), .slice none 0 0, .slice none 0 0, .int .i64 0] 90)) = W0 := ⟨_, rfl⟩
 have HI0 := Aside0.mk (show commit_visit.In w W0 (w.heap.size + 1) g (.slice none 0 0) [] ⟨[], [], false⟩ from hW0 ▸ commit_Back.start w g)
 have HW0 := Aside0.mk hW0
 have HS := Aside0.mk hS
 have HTS := Aside0.mk hts
 have HN := Aside0.mk hn
 have HZ := Aside0.mk hz
 have hnl : names.length ≤ 9223372036854775807 := hn.2.1
 clear hS hts hn hz hW0
 go_enter Tryd.func24, Tryd.ntmps24
 go_upto_region 2 with (fail)
 rw [HW0.out]
 clear hmm
 go_wp2
 go_loopg [28] (names.length) (fun kq v28 wr => ∃ k : Nat, v28 = .int .i64 (k : Int) ∧ k ≤ names.length ∧ Aside0 (kq = names.length - k) ∧ Aside0 (commit_visit.In w wr (w.heap.size + 1) g (.slice none 0 0) [] ((names.take k).foldl (M.BS.step (commit_visit.ld s)) ⟨[], [], false⟩)))
 case atStart => exact ⟨0, rfl, Nat.zero_le _, ⟨rfl⟩, HI0⟩
 case round =>
  clear HI0 HW0
  obtain ⟨k, rfl, hk, hkq, HI⟩ := hrel
  have HV := Aside0.mk (commit_Back.inv s (names.take k))
  by_cases hlt : k < names.length
  ·obtain ⟨nm, hnm⟩ : ∃ x, names[k] = x := ⟨_, rfl⟩
   obtain ⟨ad, hA, e0⟩ := Kd.at_string HN.out (k : Int) (by omega) (by omega)
   rw [show rdOf ByteArray.empty names (k : Int) = nm from by rw [← hnm]; simp [rdOf, List.getD, hlt], Int.toNat_natCast] at e0
   have hz1 : nm.size ≤ 1000000000000 := hnm ▸ HZ.out _ (List.getElem_mem hlt)
   subst hA
   have q0 := ((commit_Back.low HI.out).cell (World.block_lt_of_cell? w _ e0)).trans e0
   have HNM := Aside0.mk hnm
   have HFW := Aside0.mk (Nat.le_trans (commit_Back.few s HV.out) hl)
   have p1 : (k : Int) < (names.length : Int) := by omega
   have p2 : (0 : Int) ≤ (k : Int) := by omega
   have p3 := decide_eq_true p1
   clear e0 hnm
   go_wp2_with (go_at_call 48; (with_reducible refine (commit_visit.step w _ (w.heap.size + 1) g (.slice none 0 0) [] _ nm base F s hz1 HI.out HS.out HTS.out HV.out.len HFW.out).mono ?_); rintro e w1 ⟨rfl, hI⟩; have HI1 := Aside0.mk hI; clear hI)
   go_roundg (names.length - (k + 1))
   case measure => have := hkq.out; omega
   case rel => exact ⟨k + 1, by go_num, by omega, ⟨rfl⟩, ⟨by rw [commit_Back.fold1 s names _ k hlt, HNM.out]; exact HI1.out⟩⟩
  ·obtain rfl : k = names.length := by omega
   rw [List.take_length] at HI HV
   have p3 : decide ((names.length : Int) < (names.length : Int)) = false := decide_eq_false (by omega)
   clear hlt hk hkq
   obtain ⟨st0, hst0⟩ : ∃ x, names.foldl (M.BS.step (commit_visit.ld s)) ⟨[], [], false⟩ = x := ⟨_, rfl⟩
   have HST := Aside0.mk (show commit_Back.st s names = M.BS.walk (commit_visit.ld s) (fun c => c.f1) (s.ts.length + 1 - 0) 0 st0 from by rw [← hst0]; rfl)
   rw [hst0] at HI HV
   clear hst0
   go_wp2
   go_loopg [11] (s.ts.length + 1) (fun kq v11 wr => ∃ (i : Nat) (st : M.BS S24), v11 = .int .i64 (i : Int) ∧ Aside0 (i ≤ s.ts.length + 1) ∧ Aside0 (kq = s.ts.length + 1 - i) ∧ Aside0 (commit_visit.In w wr (w.heap.size + 1) g (.slice none 0 0) [] st) ∧ Aside0 (M.BS.Inv (commit_visit.ld s) (s.ts.map M.shaSum) st) ∧ Aside0 (commit_Back.st s names = M.BS.walk (commit_visit.ld s) (fun c => c.f1) (s.ts.length + 1 - i) i st))
   case atStart => exact ⟨0, st0, rfl, ⟨Nat.zero_le _⟩, ⟨by omega⟩, HI, HV, HST⟩
   case round =>
    clear HI HV HST
    obtain ⟨i, st, rfl, hi, hkq, HI, HV, HST⟩ := hrel
    have hfw := Aside0.mk (commit_Back.few s HV.out)
    obtain ⟨B, k, D, vN, vA, H⟩ := id HI.out
    obtain ⟨AA, cA, rfl⟩ := Kd.R_slice H.ra
    have c3 := M.rec_cell H.blk 3 _ rfl
    have c4 := M.rec_cell H.blk 4 _ rfl
    have HH := Aside0.mk H
    clear H
    have hb2 : (w.heap.size + 1 : Nat) = w.heap.size + 1 := rfl
    cases hbad : st.bad with
    | true =>
     rw [hbad, if_pos rfl] at c4
     have HR := Aside0.mk (show commit_Back.res s names = ([], [], 13) from by
      unfold commit_Back.res
      rw [HST.out, M.BS.walk_bad _ _ hbad, if_pos hbad])
     have HLOW := Aside0.mk (commit_Back.low HI.out)
     by_cases hlt : i < st.all.length
     ·have p3 : decide ((i : Int) < (st.all.length : Int)) = true := decide_eq_true (by omega)
      go_wp2
      go_region_held3 (fun w' => w'.cell? ⟨w.heap.size + 1, 4, none⟩ = some (.int .i64 13)) (first | exact c4 | go_keep) (fail)
      go_wp2
      exact bodyPost_ret (v := .tuple #[.slice none 0 0, .slice none 0 0, .int .i64 13]) (by simp [results, Tryd.results24, go_sem]) rfl (by rw [HR.out]; exact ⟨_, _, rfl, Kd.R_nil _ _ _ _ _, Kd.R_nil _ _ _ _ _, below_drew1 HLOW.out⟩)
     ·have p3 : decide ((i : Int) < (st.all.length : Int)) = false := decide_eq_false (by omega)
      go_wp2
      go_region_held3 (fun w' => w'.cell? ⟨w.heap.size + 1, 4, none⟩ = some (.int .i64 13)) (first | exact c4 | go_keep) (fail)
      go_wp2
      exact bodyPost_ret (v := .tuple #[.slice none 0 0, .slice none 0 0, .int .i64 13]) (by simp [results, Tryd.results24, go_sem]) rfl (by rw [HR.out]; exact ⟨_, _, rfl, Kd.R_nil _ _ _ _ _, Kd.R_nil _ _ _ _ _, below_drew1 HLOW.out⟩)
    | false =>
     rw [hbad, if_neg (by decide)] at c4
     by_cases hlt : i < st.all.length
     ·obtain ⟨ad, A1, c1, cA2, he, e0, e1, _, _, hP⟩ := commit_Back.par HH.out i hlt
      injection he with he1 _ he2
      subst he1
      subst he2
      obtain ⟨ps, hps⟩ : ∃ x, (st.all[i]).f1 = x := ⟨_, rfl⟩
      rw [hps] at e1 hP
      have HSZ := Aside0.mk (hps ▸ commit_Back.mem s HV.out i hlt)
      have HIp := Aside0.mk (show commit_visit.In w wr (w.heap.size + 1) g (.slice A1 ps.length c1) ps st from ⟨_, _, _, _, _, HH.out.blk, HH.out.map, HH.out.says, HH.out.cnt, HH.out.rn, HH.out.ra, HH.out.gb, HH.out.gB, HH.out.bB, HH.out.low, HH.out.ws, hP⟩)
      have HWS := Aside0.mk (show commit_Back.st s names = M.BS.walk (commit_visit.ld s) (fun c => c.f1) (s.ts.length + 1 - (i + 1)) (i + 1) (ps.foldl (M.BS.step (commit_visit.ld s)) st) from by
       have h1 := hfw.out
       rw [HST.out, show s.ts.length + 1 - i = s.ts.length + 1 - (i + 1) + 1 from by omega, commit_Back.walk_step s st i _ hlt hbad, hps])
      have hpl : ps.length ≤ 9223372036854775807 := (Kd.R_reads hP).elim fun _ h => h.elim fun _ h => h.2.2.2.1
      have p1 : (i : Int) < (st.all.length : Int) := by omega
      have p2 : (0 : Int) ≤ (i : Int) := by omega
      have p3 := decide_eq_true p1
      have hal : st.all.length ≤ 9223372036854775807 := by have := hfw.out; omega
      have HI1 := Aside0.mk (show i + 1 ≤ s.ts.length + 1 from by have := hfw.out; omega)
      clear e0 hP HH hps hi
      go_wp2
      go_loopg [61] (ps.length) (fun kq2 v61 wr2 => ∃ j : Nat, v61 = .int .i64 (j : Int) ∧ j ≤ ps.length ∧ Aside0 (kq2 = ps.length - j) ∧ Aside0 (commit_visit.In w wr2 (w.heap.size + 1) g (.slice A1 ps.length c1) ps ((ps.take j).foldl (M.BS.step (commit_visit.ld s)) st)))
      case atStart => exact ⟨0, rfl, Nat.zero_le _, ⟨rfl⟩, HIp⟩
      case round =>
       clear HIp e1 c3 c4 HI
       obtain ⟨j, rfl, hj, hkq2, HIj⟩ := hrel
       have HVj := Aside0.mk (M.BS.Inv.fold (commit_visit.ld s) (fun n c h => (commit_Back.ld_in s n c h).1) (ps.take j) HV.out)
       by_cases hlt2 : j < ps.length
       ·obtain ⟨nm, hnm⟩ : ∃ x, ps[j] = x := ⟨_, rfl⟩
        obtain ⟨ad2, c2, he, q0⟩ := commit_Back.row HIj.out j hlt2
        injection he with he1 _ he2
        subst he1
        subst he2
        rw [hnm] at q0
        have hz1 : nm.size ≤ 1000000000000 := hnm ▸ HSZ.out _ (List.getElem_mem hlt2)
        have HNM := Aside0.mk hnm
        have HFW := Aside0.mk (Nat.le_trans (commit_Back.few s HVj.out) hl)
        have p4 : (j : Int) < (ps.length : Int) := by omega
        have p5 : (0 : Int) ≤ (j : Int) := by omega
        have p6 := decide_eq_true p4
        clear hnm
        go_wp2_with (go_at_call 48; (with_reducible refine (commit_visit.step w _ (w.heap.size + 1) g (.slice (some ad2) ps.length c1) ps _ nm base F s hz1 HIj.out HS.out HTS.out HVj.out.len HFW.out).mono ?_); rintro e w1 ⟨rfl, hI⟩; have HI2 := Aside0.mk hI; clear hI)
        go_roundg (ps.length - (j + 1))
        case measure => have := hkq2.out; omega
        case rel => exact ⟨j + 1, by go_num, by omega, ⟨rfl⟩, ⟨by rw [commit_Back.fold1 s ps _ j hlt2, HNM.out]; exact HI2.out⟩⟩
       ·obtain rfl : j = ps.length := by omega
        rw [List.take_length] at HIj HVj
        have p6 : decide ((ps.length : Int) < (ps.length : Int)) = false := decide_eq_false (by omega)
        go_wp2
        go_roundg (s.ts.length + 1 - (i + 1))
        case measure => (refine Nat.lt_of_lt_of_le ?_ (Nat.le_of_eq hkq.out.symm); have := HI1.out; omega)
        case rel => have h1 := hfw.out; exact ⟨i + 1, _, by go_num, HI1, ⟨rfl⟩, ⟨commit_Back.drop HIj.out⟩, HVj, HWS⟩
     ·obtain ⟨W3, rfl⟩ : ∃ x, x = wr := ⟨_, rfl⟩
      have HE := Aside0.mk (show commit_Back.st s names = st from by rw [HST.out]; exact commit_Back.walk_stop s st i (fun h => hlt h.1) _)
      have p3 : decide ((i : Int) < (st.all.length : Int)) = false := decide_eq_false (by omega)
      have hal : st.all.length ≤ 9223372036854775807 := by have := hfw.out; omega
      have HBAD := Aside0.mk hbad
      have p7 : (st.all.length : Int) ≤ (i : Int) := by omega
      have HCR := Aside0.mk (Kd.R_reads HH.out.ra)
      clear HI HST hkq hi hlt
      go_wp2
      go_loopg [83] (st.all.length) (fun kq3 v83 wr3 => ∃ k : Nat, v83 = .int .i64 (k : Int) ∧ k ≤ st.all.length ∧ Aside0 (kq3 = st.all.length - k) ∧ Aside0 (Below W3.heap.size W3 wr3) ∧ Aside0 ((st.all.take k).any (commit_Back.rotC s) = false))
      case atStart => exact ⟨0, rfl, Nat.zero_le _, ⟨rfl⟩, ⟨Below.refl _ _⟩, ⟨rfl⟩⟩
      case round =>
       obtain ⟨q, rfl, hq, hkq3, HB3, HA3⟩ := hrel
       obtain ⟨W4, rfl⟩ : ∃ x, x = wr := ⟨_, rfl⟩
       by_cases hlt3 : q < st.all.length
       ·obtain ⟨ad, A1, c1, cA2, he, e0, e1, e2, e3, hP⟩ := commit_Back.par HH.out q hlt3
        injection he with he1 _ he2
        subst he1
        subst he2
        obtain ⟨cm, hcm⟩ : ∃ x, st.all[q] = x := ⟨_, rfl⟩
        rw [hcm] at e0 e1 e2 e3 hP
        have HSZ := Aside0.mk (hcm ▸ commit_Back.mem s HV.out q hlt3)
        have HCM := Aside0.mk hcm
        have HP := Aside0.mk (Kd.R_reads' hP).2.2
        have hpl : cm.f1.length ≤ 9223372036854775807 := (Kd.R_reads hP).elim fun _ h => h.elim fun _ h => h.2.2.2.1
        have q0 := (HB3.out.cell (World.block_lt_of_cell? W3 _ e0)).trans e0
        have q1 := (HB3.out.cell (World.block_lt_of_cell? W3 _ e1)).trans e1
        have q2 := (HB3.out.cell (World.block_lt_of_cell? W3 _ e2)).trans e2
        have q3 := (HB3.out.cell (World.block_lt_of_cell? W3 _ e3)).trans e3
        have E0 := Aside0.mk e0
        have p4 : (q : Int) < (st.all.length : Int) := by omega
        have p5 : (0 : Int) ≤ (q : Int) := by omega
        have p6 := decide_eq_true p4
        clear e0 e1 e2 e3 hP hcm c3 c4
        go_wp2_with (first | ((with_reducible refine gate_store (t := 24) (p := 15) (v := .tmp 87) rfl ?_); refine M.wp_rec_store rfl 24 _ _ rfl W4.heap.size 24 commit_Load.zero_ [.int .i64 cm.f0, .slice A1 cm.f1.length c1, .string cm.f2, .string cm.f3] rfl rfl (M.rec_new W4 24 commit_Load.zero_) rfl commit_Load.size_ rfl ?_; intro w4 hA4 hF4 hB4 hz4; have HB4 := Aside0.mk (below_step HB3.out (hB4 _ _ (Nat.le_refl _) (below_alloc (Below.refl W4.heap.size W4) _))); have HC4 := Aside0.mk hA4; have r1 := M.rec_cell hA4 1 _ rfl; clear hA4 hF4 hB4 hz4))
        go_loopg [91] (cm.f1.length) (fun kq4 v91 wr4 => ∃ j : Nat, v91 = .int .i64 (j : Int) ∧ j ≤ cm.f1.length ∧ Aside0 (kq4 = cm.f1.length - j) ∧ Aside0 (Below w4.heap.size w4 wr4) ∧ Aside0 ((cm.f1.take j).any (commit_Back.bad1 s cm) = false))
        case atStart => exact ⟨0, rfl, Nat.zero_le _, ⟨rfl⟩, ⟨Below.refl _ _⟩, ⟨rfl⟩⟩
        case round =>
         clear r1 q0 q1 q2 q3
         obtain ⟨j, rfl, hj, hkq4, HB5, HA5⟩ := hrel
         obtain ⟨W5, rfl⟩ : ∃ x, x = wr := ⟨_, rfl⟩
         have HB35 := Aside0.mk (below_step HB4.out HB5.out)
         by_cases hlt4 : j < cm.f1.length
         ·obtain ⟨nm, hnm⟩ : ∃ x, cm.f1[j] = x := ⟨_, rfl⟩
          obtain ⟨ad2, hA1, e0⟩ := Kd.at_string HP.out (j : Int) (by omega) (by omega)
          rw [show rdOf ByteArray.empty cm.f1 (j : Int) = nm from by rw [← hnm]; simp [rdOf, List.getD, hlt4], Int.toNat_natCast] at e0
          subst hA1
          have q0 := (HB35.out.cell (World.block_lt_of_cell? W3 _ e0)).trans e0
          have hz1 : nm.size ≤ 1000000000000 := hnm ▸ HSZ.out _ (List.getElem_mem hlt4)
          have HNM := Aside0.mk hnm
          have HSh := Aside0.mk (HS.out.below (below_then HH.out.low HH.out.ws HB35.out))
          have p7 : (j : Int) < (cm.f1.length : Int) := by omega
          have p8 : (0 : Int) ≤ (j : Int) := by omega
          have p9 := decide_eq_true p7
          obtain ⟨nn, hnn⟩ : ∃ x, commit_Back.num s nm = x := ⟨_, rfl⟩
          have HNN := Aside0.mk hnn
          clear e0 hnm
          go_wp2_with (first | (go_at_call 20; (with_reducible refine (commit_Back.ldn base g F s nm _ HSh.out hz1 HTS.out).mono ?_); rw [HNN.out]; rintro e w6 ⟨B6, m6, d6, y6, z6, er6, rfl, hb6⟩; have HB6 := Aside0.mk (below_step HB35.out hb6); have HD6 := Aside0.mk (below_step HB5.out hb6); clear hb6) | ((with_reducible refine gate_store (t := 24) (p := 18) (v := .tmp 99) rfl ?_); refine M.wp_rec_store rfl 24 _ _ rfl w6.heap.size 24 commit_Load.zero_ [.int .i64 nn, .slice B6 m6 d6, .string y6, .string z6] rfl rfl (M.rec_new w6 24 commit_Load.zero_) rfl commit_Load.size_ rfl ?_; intro w7 hA7 hF7 hB7 hz7; have HB7 := Aside0.mk (below_step HB6.out (hB7 _ _ (Nat.le_refl _) (below_alloc (Below.refl w6.heap.size w6) _))); have HD7 := Aside0.mk (below_step HD6.out (hB7 _ _ (Nat.le_refl _) (below_alloc (Below.refl w6.heap.size w6) _))); have u0 := M.rec_cell hA7 0 _ rfl; clear hA7 hF7 hB7 hz7))
          have c3 : w7.cell? ⟨w.heap.size + 1, 3, none⟩ = some (.slice (some ad) st.all.length cA) := M.rec_cell (M.rec_below HH.out.blk HB7.out) 3 _ rfl
          have k0 : w7.cell? (ad.add (q * 4)) = some (.int .i64 cm.f0) := (HB7.out.cell (World.block_lt_of_cell? W3 _ E0.out)).trans E0.out
          by_cases hbd : cm.f0 ≤ nn
          ·have x1 := decide_eq_true hbd
           have HR := Aside0.mk (show commit_Back.res s names = ([], [], 16) from by
            unfold commit_Back.res
            simp only []
            rw [HE.out, if_neg (by rw [HBAD.out]; decide), if_pos]
            refine commit_Back.hit _ _ q hlt3 ?_
            rw [HCM.out]
            refine commit_Back.hit _ _ j hlt4 ?_
            rw [HNM.out]
            unfold commit_Back.bad1
            rw [HNN.out]
            exact decide_eq_true hbd)
           go_region_held3 (fun w' => w'.cell? ⟨w6.heap.size, 0, none⟩ = some (.int .i64 nn) ∧ w'.cell? ⟨w.heap.size + 1, 3, none⟩ = some (.slice (some ad) st.all.length cA) ∧ w'.cell? (ad.add (q * 4)) = some (.int .i64 cm.f0)) (first | exact ⟨u0, c3, k0⟩ | go_keep) (fail)
           go_wp2
           exact bodyPost_ret (v := .tuple #[.slice none 0 0, .slice none 0 0, .int .i64 16]) (by simp [results, Tryd.results24, go_sem]) rfl (by rw [HR.out]; exact ⟨_, _, rfl, Kd.R_nil _ _ _ _ _, Kd.R_nil _ _ _ _ _, below_drew1 (below_then HH.out.low HH.out.ws HB7.out)⟩)
          ·have HBF := Aside0.mk (decide_eq_false hbd)
           have x1 := decide_eq_false hbd
           go_region_held3 (fun w' => w'.cell? ⟨w6.heap.size, 0, none⟩ = some (.int .i64 nn) ∧ w'.cell? ⟨w.heap.size + 1, 3, none⟩ = some (.slice (some ad) st.all.length cA) ∧ w'.cell? (ad.add (q * 4)) = some (.int .i64 cm.f0)) (first | exact ⟨u0, c3, k0⟩ | go_keep) (fail)
           go_wp2
           go_roundg (cm.f1.length - (j + 1))
           case measure => have := hkq4.out; omega
           case rel => exact ⟨j + 1, by go_num, by omega, ⟨rfl⟩, ⟨below_drew1 HD7.out⟩, ⟨commit_Back.any1 _ _ j hlt4 HA5.out (by rw [HNM.out]; unfold commit_Back.bad1; rw [HNN.out]; exact HBF.out)⟩⟩
         ·obtain rfl : j = cm.f1.length := by omega
          rw [List.take_length] at HA5
          have p9 : decide ((cm.f1.length : Int) < (cm.f1.length : Int)) = false := decide_eq_false (by omega)
          go_wp2
          go_roundg (st.all.length - (q + 1))
          case measure => (refine Nat.lt_of_lt_of_le ?_ (Nat.le_of_eq hkq3.out.symm); omega)
          case rel => exact ⟨q + 1, by go_num, by omega, ⟨rfl⟩, HB35, ⟨commit_Back.any1 _ _ q hlt3 HA3.out (by rw [HCM.out]; exact HA5.out)⟩⟩
       ·obtain rfl : q = st.all.length := by omega
        rw [List.take_length] at HA3
        have p9 : decide ((st.all.length : Int) < (st.all.length : Int)) = false := decide_eq_false (by omega)
        have HR := Aside0.mk (show commit_Back.res s names = (st.names, st.all, 0) from by
         unfold commit_Back.res
         simp only []
         rw [HE.out, if_neg (by rw [HBAD.out]; decide), if_neg (by rw [HA3.out]; decide)])
        obtain ⟨AN, cN, rfl⟩ := Kd.R_slice HH.out.rn
        have d2 : W4.cell? ⟨w.heap.size + 1, 2, none⟩ = some (.slice AN st.names.length cN) := M.rec_cell (M.rec_below HH.out.blk HB3.out) 2 _ rfl
        have d3 : W4.cell? ⟨w.heap.size + 1, 3, none⟩ = some (.slice AA st.all.length cA) := M.rec_cell (M.rec_below HH.out.blk HB3.out) 3 _ rfl
        go_wp2
        go_region_held3 (fun w' => w'.cell? ⟨w.heap.size + 1, 2, none⟩ = some (.slice AN st.names.length cN) ∧ w'.cell? ⟨w.heap.size + 1, 3, none⟩ = some (.slice AA st.all.length cA)) (first | exact ⟨d2, d3⟩ | go_keep) (fail)
        go_wp2
        have hb9 : Below W3.heap.size W3 W4.drew := below_drew1 HB3.out
        exact bodyPost_ret (v := .tuple #[.slice AN st.names.length cN, .slice AA st.all.length cA, .int .i64 0]) (by simp [results, Tryd.results24, go_sem]) rfl (by rw [HR.out]; exact ⟨_, _, rfl, Kd.R_below HH.out.rn hb9, Kd.R_mono (Kd.R_below HH.out.ra hb9) (fun _ _ => trivial), below_then HH.out.low HH.out.ws hb9⟩)
end
end Go.Proofs.YtikdbklmhjlfoaaDoor.ECommitKnots
