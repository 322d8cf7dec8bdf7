-- Written by this session's own program (wip/tools/ext.py) for this claim; Lean checks it.
import Derived.Test.YtccekjebfafgcaaDoorEShelfApartx0
import Derived.Test.YtccekjebfafgcaaDoorEShelfApartx1
import Derived.Test.YtccekjebfafgcaaDoorEShelfApartx6
import Derived.Test.YtccekjebfafgcaaDoorEShelfApartx7
import Derived.Test.YtccekjebfafgcaaDoorEShelfApartx9
namespace Go.Proofs.YtccekjebfafgcaaDoor.EShelfApart
open Go.RowKit Go.Proofs.YtccekjebfafgcaaDoorW.PrintWords Go.Proofs.YtccekjebfafgcaaDoorW.PrintLast Go.Proofs.YtccekjebfafgcaaDoorW.PrintMore
attribute [local go_sem] M.run_leq M.run_gtr M.run_geq max2_int min2_int max_two min_two max_three min_three max_four min_four   -- for this text's walks alone
set_option linter.unusedVariables false
set_option linter.unusedSimpArgs false

/-! ### pleachlaw16_ShelfApart: function 4 -/
/-- Whatever is played, a copy is apart. -/
def pleachlaw16_ShelfApart.f (l0 : List S38) (a1_0 : Int) (a1_1 : Int) (a1_2 : ByteArray) : Option Bool := some true
/-- How far the acts went. -/
def pleachlaw16_ShelfApart.st (l : List S38) (k : Nat) : M.SS := (l.take k).foldl (fun s x => pleachlaw16_does.act s x.f0 x.f1 x.f2) M.SS.none_
structure pleachlaw16_ShelfApart.Inv (k : Nat) (s : M.SS) : Prop where
  few : s.ts.length ≤ k
  size : ∀ x ∈ s.ts, x.size ≤ 10000
  ab : s.a = ByteArray.empty → s.b = ByteArray.empty
theorem pleachlaw16_ShelfApart.put_ab (s : M.SS) (t : ByteArray) (h : s.a = ByteArray.empty → s.b = ByteArray.empty) (hne : ∀ x ∈ s.ts, x ≠ ByteArray.empty) : (s.put t).2.2.a = ByteArray.empty → (s.put t).2.2.b = ByteArray.empty := by
  unfold M.SS.put
  split
  · exact h
  · split
    · exact h
    · split
      · exact h
      · rename_i i hi
        split
        · exact h
        · simp only
          split
          · intro e
            have hl := (M.idx_lt hi).1
            rw [List.length_map] at hl
            exact absurd e (hne _ (M.getD_mem hl))
          · exact h
theorem pleachlaw16_ShelfApart.put_ne (s : M.SS) (t : ByteArray) (hne : ∀ x ∈ s.ts, x ≠ ByteArray.empty) : ∀ x ∈ (s.put t).2.2.ts, x ≠ ByteArray.empty := by
  intro x hx
  unfold M.SS.put at hx
  split at hx
  · exact hne x hx
  · rename_i h0
    split at hx
    · exact hne x hx
    · split at hx
      · rcases List.mem_append.1 hx with h | h
        · exact hne x h
        · rw [List.mem_singleton.1 h]; exact h0
      · split at hx
        · exact hne x hx
        · simp only at hx
          split at hx <;> exact hne x hx
theorem pleachlaw16_ShelfApart.fold_ (l : List ByteArray) : ∀ s : M.SS, (∀ x ∈ s.ts, x ≠ ByteArray.empty) → (s.a = ByteArray.empty → s.b = ByteArray.empty) → (∀ x ∈ (l.foldl (fun q t => (q.put t).2.2) s).ts, x ≠ ByteArray.empty ∧ (x ∈ s.ts ∨ x ∈ l)) ∧ ((l.foldl (fun q t => (q.put t).2.2) s).a = ByteArray.empty → (l.foldl (fun q t => (q.put t).2.2) s).b = ByteArray.empty) := by
  induction l with
  | nil => intro s h1 h2; exact ⟨fun x hx => ⟨h1 x hx, .inl hx⟩, h2⟩
  | cons t l ih =>
    intro s h1 h2
    obtain ⟨h3, h4⟩ := ih (s.put t).2.2 (pleachlaw16_ShelfApart.put_ne s t h1) (pleachlaw16_ShelfApart.put_ab s t h2 h1)
    refine ⟨fun x hx => ?_, h4⟩
    obtain ⟨h5, h6⟩ := h3 x hx
    refine ⟨h5, ?_⟩
    rcases h6 with h6 | h6
    · exact (M.SS.put_mem s t x h6).imp id (fun e => by rw [e]; exact List.mem_cons_self)
    · exact .inr (List.mem_cons_of_mem _ h6)
/-- .. with no empty text. -/
structure pleachlaw16_ShelfApart.Inv2 (k : Nat) (s : M.SS) : Prop extends pleachlaw16_ShelfApart.Inv k s where
  ne : ∀ x ∈ s.ts, x ≠ ByteArray.empty
theorem pleachlaw16_ShelfApart.inv0 : pleachlaw16_ShelfApart.Inv2 0 M.SS.none_ := ⟨⟨Nat.zero_le _, fun x h => absurd h List.not_mem_nil, fun _ => rfl⟩, fun x h => absurd h List.not_mem_nil⟩
theorem pleachlaw16_ShelfApart.invS {n : Nat} {s : M.SS} (h : pleachlaw16_ShelfApart.Inv2 n s) (k N : Int) (t : ByteArray) (ht : t.size ≤ 10000) : pleachlaw16_ShelfApart.Inv2 (n + 1) (pleachlaw16_does.act s k N t) := by
  unfold pleachlaw16_does.act
  split
  · refine ⟨⟨?_, ?_, pleachlaw16_ShelfApart.put_ab s t h.ab h.ne⟩, pleachlaw16_ShelfApart.put_ne s t h.ne⟩
    · have := M.SS.put_len s t; have := h.few; omega
    · intro x hx
      rcases M.SS.put_mem s t x hx with q | q
      · exact h.size x q
      · rw [q]; exact ht
  · split
    · split
      · exact ⟨⟨by have := h.few; omega, h.size, h.ab⟩, h.ne⟩
      · refine ⟨⟨?_, fun x hx => h.size x (List.mem_of_mem_take hx), h.ab⟩, fun x hx => h.ne x (List.mem_of_mem_take hx)⟩
        show (s.ts.take N.toNat).length ≤ n + 1
        have := List.length_take_le N.toNat s.ts
        have := List.length_take_le' N.toNat s.ts
        have := h.few
        omega
    · obtain ⟨ts, a, b⟩ := s
      have hf := pleachlaw16_ShelfApart.fold_ ((ts.take ts.length).filter fun t => pleachlaw16_even.p (M.shaSum t)) M.SS.none_ (fun x h => absurd h List.not_mem_nil) (fun _ => rfl)
      have hl := M.SS.only_len pleachlaw16_even.p ts a b ts.length
      refine ⟨⟨?_, ?_, hf.2⟩, fun x hx => (hf.1 x hx).1⟩
      · have := h.few
        simp only at this ⊢
        omega
      · intro x hx
        rcases (hf.1 x hx).2 with q | q
        · exact absurd q List.not_mem_nil
        · exact h.size x (List.mem_of_mem_take (List.mem_filter.1 q).1)
theorem pleachlaw16_ShelfApart.each (l : List S38) : ∀ x ∈ l, min x.f2.size 10000 ≤ pleachlaw16_few.sum_ l := by
  induction l with
  | nil => intro x h; exact absurd h List.not_mem_nil
  | cons y l ih =>
    intro x hx
    rw [pleachlaw16_few.sum_]
    rcases List.mem_cons.1 hx with rfl | hx
    · omega
    · have := ih x hx; omega
theorem pleachlaw16_ShelfApart.few_ {l : List S38} (h : pleachlaw16_few.f l = some true) : l.length ≤ 40 ∧ ∀ x ∈ l, x.f2.size ≤ 4000 := by
  unfold pleachlaw16_few.f at h
  have h := Option.some.inj h
  rw [Bool.and_eq_true] at h
  have h1 := of_decide_eq_true h.1
  have h2 := of_decide_eq_true h.2
  rw [List.take_of_length_le (by omega)] at h2
  exact ⟨h1, fun x hx => by have := pleachlaw16_ShelfApart.each l x hx; omega⟩
theorem pleachlaw16_ShelfApart.st_succ (l : List S38) (k : Nat) (hk : k < l.length) : pleachlaw16_ShelfApart.st l (k + 1) = pleachlaw16_does.act (pleachlaw16_ShelfApart.st l k) (rd_T38 l (k : Int)).f0 (rd_T38 l (k : Int)).f1 (rd_T38 l (k : Int)).f2 := by
  unfold pleachlaw16_ShelfApart.st
  have hrd : rd_T38 l (k : Int) = l[k] := by simp [rd_T38, List.getD, hk]
  rw [List.take_succ_eq_append_getElem hk, List.foldl_append, hrd]
  rfl
theorem pleachlaw16_ShelfApart.inv (l : List S38) (hz : ∀ x ∈ l, x.f2.size ≤ 4000) : ∀ k, k ≤ l.length → pleachlaw16_ShelfApart.Inv2 k (pleachlaw16_ShelfApart.st l k)
  | 0, _ => pleachlaw16_ShelfApart.inv0
  | k + 1, hk => by
    have hk' : k < l.length := by omega
    have hrd : rd_T38 l (k : Int) = l[k] := by simp [rd_T38, List.getD, hk']
    rw [pleachlaw16_ShelfApart.st_succ l k hk']
    exact pleachlaw16_ShelfApart.invS (pleachlaw16_ShelfApart.inv l hz k (by omega)) _ _ _ (by rw [hrd]; have := hz _ (List.getElem_mem hk'); omega)
theorem pleachlaw16_ShelfApart.size38 : (Tryd.prog.info? 38).map (·.size) = some 3 := by kernel_rfl
theorem pleachlaw16_ShelfApart.few1 (a_ : S38) (r : Bool) (W : World) (g : Nat) (hf : pleachlaw16_few.f [a_] = some r) (hg : W.heap[g]? = some (.cells #[.int .i64 a_.f0, .int .i64 a_.f1, .string a_.f2] 38 (0, 0))) :
    Calls Tryd.prog 14 #[.slice (some ⟨g, 0, none⟩) 1 1] W fun e w' => e = .returned (.bool r) ∧ Below W.heap.size W w' := by
  refine pleachlaw16_few.calls (some ⟨g, 0, none⟩) 1 [a_] r W ⟨rfl, by simp, fun _ => ⟨_, rfl, fun j p hp => ?_⟩⟩ (Nat.le_refl _) hf
  have hj : j = 0 := by have := (List.getElem?_eq_some_iff.1 hp).1; simpa using this
  subst hj
  obtain rfl : a_ = p := by simpa using hp
  refine ⟨[.int .i64 a_.f0, .int .i64 a_.f1, .string a_.f2], rfl, k38_mk W a_, fun i u hu => ?_⟩
  have h3 : k38.sz = 3 := rfl
  rw [Nat.zero_mul, Nat.zero_add, add_plain]
  exact M.rec_cell (cs := [.int .i64 a_.f0, .int .i64 a_.f1, .string a_.f2]) hg i u hu
set_option maxHeartbeats 8000000 in
set_option maxRecDepth 100000 in
theorem pleachlaw16_ShelfApart.out1 (AL : Option Addr) (cl : Nat) (l : List S38) (a_ : S38) (w : World) (hr : Kd.C k38 w AL l.length l) (hcl : l.length ≤ cl) (hT : M.stab w) (hf : pleachlaw16_few.f l = some false) :
    Calls Tryd.prog 4 #[.slice AL l.length cl, .agg #[.int .i64 a_.f0, .int .i64 a_.f1, .string a_.f2]] w fun e w' => e = .returned (.bool true) ∧ Below w.heap.size w w' := by
  have HT := Aside0.mk hT
  have hlt := Aside0.mk (M.stab_lt hT)
  have HX0 := Aside0.mk (M.rec_new w 38 [.int .i64 a_.f0, .int .i64 a_.f1, .string a_.f2])
  have HR := Aside0.mk hr
  have HR0 := Aside0.mk (Kd.C_below hr (below_alloc (Below.refl w.heap.size w) (.cells #[.int .i64 a_.f0, .int .i64 a_.f1, .string a_.f2] 38)))
  have HF := Aside0.mk hf
  clear hT hr hf
  go_enter Tryd.func4, Tryd.ntmps4
  go_wp2_with (first | (go_at_call 14; (with_reducible refine (pleachlaw16_few.calls AL cl l false _ HR0.out hcl HF.out).mono ?_); rintro e w1 ⟨rfl, hb1⟩; have HB1 := Aside0.mk (below_step (below_alloc (Below.refl w.heap.size w) (.cells #[.int .i64 a_.f0, .int .i64 a_.f1, .string a_.f2] 38)) hb1); have HX1 := Aside0.mk (M.rec_below HX0.out hb1); have HT1 := Aside0.mk (M.stab_below HT.out HB1.out hlt.out); have x10 : w1.cell? ⟨w.heap.size, 0, none⟩ = some (.int .i64 a_.f0) := M.rec_cell HX1.out 0 _ rfl; have x11 : w1.cell? ⟨w.heap.size, 1, none⟩ = some (.int .i64 a_.f1) := M.rec_cell HX1.out 1 _ rfl; have x12 : w1.cell? ⟨w.heap.size, 2, none⟩ = some (.string a_.f2) := M.rec_cell HX1.out 2 _ rfl; clear hb1) | (go_at_call 14; (with_reducible refine (pleachlaw16_ShelfApart.few1 a_ false _ _ HF2.out ?hg).mono ?_); (case hg => exact heap_alloc_new _ _); rintro e w1b ⟨rfl, hb1b⟩; have HBb := Aside0.mk (below_step (below_alloc HB1.out _) hb1b); have HTb := Aside0.mk (M.stab_below HT.out HBb.out hlt.out); clear hb1b) | (go_at_call 8; (with_reducible refine (pleachlaw16_awake.walk _ HT1.out).mono ?_); rintro e w9 ⟨rfl, hb9⟩; have HB9 := Aside0.mk (below_step HB1.out hb9); clear hb9))
  go_ret
  exact ⟨rfl, HB9.out⟩
set_option maxHeartbeats 8000000 in
set_option maxRecDepth 100000 in
theorem pleachlaw16_ShelfApart.out2 (AL : Option Addr) (cl : Nat) (l : List S38) (a_ : S38) (w : World) (hr : Kd.C k38 w AL l.length l) (hcl : l.length ≤ cl) (hT : M.stab w) (hf : pleachlaw16_few.f l = some true) (hf2 : pleachlaw16_few.f [a_] = some false) :
    Calls Tryd.prog 4 #[.slice AL l.length cl, .agg #[.int .i64 a_.f0, .int .i64 a_.f1, .string a_.f2]] w fun e w' => e = .returned (.bool true) ∧ Below w.heap.size w w' := by
  have HT := Aside0.mk hT
  have hlt := Aside0.mk (M.stab_lt hT)
  have HX0 := Aside0.mk (M.rec_new w 38 [.int .i64 a_.f0, .int .i64 a_.f1, .string a_.f2])
  have HR := Aside0.mk hr
  have HR0 := Aside0.mk (Kd.C_below hr (below_alloc (Below.refl w.heap.size w) (.cells #[.int .i64 a_.f0, .int .i64 a_.f1, .string a_.f2] 38)))
  have HF := Aside0.mk hf
  clear hT hr hf
  have HF2 := Aside0.mk hf2
  go_enter Tryd.func4, Tryd.ntmps4
  go_wp2_with (first | (go_at_call 14; (with_reducible refine (pleachlaw16_few.calls AL cl l true _ HR0.out hcl HF.out).mono ?_); rintro e w1 ⟨rfl, hb1⟩; have HB1 := Aside0.mk (below_step (below_alloc (Below.refl w.heap.size w) (.cells #[.int .i64 a_.f0, .int .i64 a_.f1, .string a_.f2] 38)) hb1); have HX1 := Aside0.mk (M.rec_below HX0.out hb1); have HT1 := Aside0.mk (M.stab_below HT.out HB1.out hlt.out); have x10 : w1.cell? ⟨w.heap.size, 0, none⟩ = some (.int .i64 a_.f0) := M.rec_cell HX1.out 0 _ rfl; have x11 : w1.cell? ⟨w.heap.size, 1, none⟩ = some (.int .i64 a_.f1) := M.rec_cell HX1.out 1 _ rfl; have x12 : w1.cell? ⟨w.heap.size, 2, none⟩ = some (.string a_.f2) := M.rec_cell HX1.out 2 _ rfl; clear hb1) | (go_at_call 14; (with_reducible refine (pleachlaw16_ShelfApart.few1 a_ false _ _ HF2.out ?hg).mono ?_); (case hg => exact heap_alloc_new _ _); rintro e w1b ⟨rfl, hb1b⟩; have HBb := Aside0.mk (below_step (below_alloc HB1.out _) hb1b); have HTb := Aside0.mk (M.stab_below HT.out HBb.out hlt.out); clear hb1b) | (go_at_call 8; (with_reducible refine (pleachlaw16_awake.walk _ HTb.out).mono ?_); rintro e w9 ⟨rfl, hb9⟩; have HB9 := Aside0.mk (below_step HBb.out hb9); clear hb9))
  go_ret
  exact ⟨rfl, HB9.out⟩
set_option maxHeartbeats 8000000 in
set_option maxRecDepth 100000 in
theorem pleachlaw16_ShelfApart.in_ (AL : Option Addr) (cl : Nat) (l : List S38) (a_ : S38) (w : World) (hr : Kd.C k38 w AL l.length l) (hcl : l.length ≤ cl) (hT : M.stab w) (hf : pleachlaw16_few.f l = some true) (hf2 : pleachlaw16_few.f [a_] = some true) :
    Calls Tryd.prog 4 #[.slice AL l.length cl, .agg #[.int .i64 a_.f0, .int .i64 a_.f1, .string a_.f2]] w fun e w' => e = .returned (.bool true) ∧ Below w.heap.size w w' := by
  obtain ⟨W0, hW0⟩ : ∃ W0, w.alloc (.cells #[.int .i64 a_.f0, .int .i64 a_.f1, .string a_.f2] 38) = W0 := ⟨_, rfl⟩
  have HW0 := Aside0.mk hW0
  have HBA := Aside0.mk (show Below w.heap.size w W0 from by rw [← hW0]; exact below_alloc (Below.refl w.heap.size w) (.cells #[.int .i64 a_.f0, .int .i64 a_.f1, .string a_.f2] 38))
  have hT0 : M.stab W0 := M.stab_below hT HBA.out (M.stab_lt hT)
  have HT := Aside0.mk hT0
  have hlt := Aside0.mk (M.stab_lt hT0)
  have HX0 := Aside0.mk (show M.rec_ W0 w.heap.size 38 [.int .i64 a_.f0, .int .i64 a_.f1, .string a_.f2] from by rw [← hW0]; exact M.rec_new w 38 [.int .i64 a_.f0, .int .i64 a_.f1, .string a_.f2])
  have HR := Aside0.mk (Kd.C_below hr HBA.out)
  have HR0 := Aside0.mk (Kd.C_below hr (below_alloc (Below.refl w.heap.size w) (.cells #[.int .i64 a_.f0, .int .i64 a_.f1, .string a_.f2] 38)))
  have HF := Aside0.mk hf
  have HF2 := Aside0.mk hf2
  have HAL : w.heap.size < W0.heap.size := by rw [← hW0]; simp
  obtain ⟨hl40, hz⟩ := pleachlaw16_ShelfApart.few_ hf
  obtain ⟨_, hz2⟩ := pleachlaw16_ShelfApart.few_ hf2
  have haz : a_.f2.size ≤ 4000 := hz2 a_ (List.mem_singleton.2 rfl)
  have HZ := Aside0.mk hz
  clear hT hr hf hf2 hz hz2 hW0 hT0
  go_enter Tryd.func4, Tryd.ntmps4
  go_wp2_with (first | (go_at_call 14; (with_reducible refine (pleachlaw16_few.calls AL cl l true _ HR0.out hcl HF.out).mono ?_); rintro e w1 ⟨rfl, hb1⟩; rw [HW0.out] at hb1; have HB1 := Aside0.mk hb1; have HX1 := Aside0.mk (M.rec_below HX0.out hb1); have x10 : w1.cell? ⟨w.heap.size, 0, none⟩ = some (.int .i64 a_.f0) := M.rec_cell HX1.out 0 _ rfl; have x11 : w1.cell? ⟨w.heap.size, 1, none⟩ = some (.int .i64 a_.f1) := M.rec_cell HX1.out 1 _ rfl; have x12 : w1.cell? ⟨w.heap.size, 2, none⟩ = some (.string a_.f2) := M.rec_cell HX1.out 2 _ rfl; clear hb1) | (go_at_call 14; (with_reducible refine (pleachlaw16_ShelfApart.few1 a_ true _ _ HF2.out ?hg).mono ?_); (case hg => exact heap_alloc_new _ _); rintro e w1b ⟨rfl, hb1b⟩; have HBb := Aside0.mk (below_step (below_alloc HB1.out _) hb1b); clear hb1b) | (go_at_call 9; (with_reducible refine (shelf_New.any _).mono ?_); rintro e w2 ⟨g, F, rfl, hs2, hb2⟩; have HS2 := Aside0.mk (M.Sh.lower hs2 HBb.out.size); have HG2 := Aside0.mk (M.Sh.lt hs2); have HB2 := Aside0.mk (below_step HBb.out hb2); clear hs2 hb2) | ((with_reducible refine gate_store (t := 41) (p := 6) (v := .tmp 24) rfl ?_); refine M.wp_rec_store rfl 41 _ _ rfl w2.heap.size 41 [.slice none 0 0, .slice none 0 0, .string ⟨#[]⟩, .string ⟨#[]⟩] [.slice none 0 0, .slice none 0 0, .string ⟨#[]⟩, .string ⟨#[]⟩] rfl rfl (M.rec_new w2 41 [.slice none 0 0, .slice none 0 0, .string ⟨#[]⟩, .string ⟨#[]⟩]) rfl pleachref16_Put.size_ rfl ?_; intro w3 hA3 hF3 hB3 hz3; have hy := hB3 w2.heap.size w2 (Nat.le_refl _) (below_alloc (Below.refl _ _) _); have HC3 := Aside0.mk hA3; have HS3 := Aside0.mk (HS2.out.below hy); have HB3 := Aside0.mk (below_step HB2.out hy); have HL3 := Aside0.mk (M.rec_lt hA3); clear hA3 hF3 hB3 hz3 hy))
  have HW2 := Aside0.mk HB2.out.size
  go_loopg [5, 27] (l.length) (fun kq v5 v27 wr => ∃ (k g : Nat) (F : Nat → Prop) (s : M.SS) (A0 A1 : Option Addr) (c0 c1 : Nat), v5 = .pointer (some ⟨g, 0, none⟩) ∧ v27 = .int .i64 (k : Int) ∧ k ≤ l.length ∧ Aside0 (kq = l.length - k) ∧ Aside0 (s = pleachlaw16_ShelfApart.st l k) ∧ Aside0 (Below W0.heap.size W0 wr) ∧ Aside0 (M.rec_ wr w2.heap.size 41 [.slice A0 s.ts.length c0, .slice A1 s.ts.length c1, .string s.a, .string s.b]) ∧ Aside0 (M.Two Tryd.prog W0.heap.size wr g F s s A0 A1 c0 c1) ∧ Aside0 (¬ F w2.heap.size))
  case atStart => exact ⟨0, g, F, M.SS.none_, none, none, 0, 0, rfl, rfl, Nat.zero_le _, ⟨rfl⟩, ⟨rfl⟩, HB3, HC3, ⟨M.Two.mk_ HS3.out⟩, ⟨fun q => by have := HG2.out _ q; omega⟩⟩
  case round =>
    clear HS2 HB2 HC3 HS3 HB3 HG2
    obtain ⟨k, g, F, s, A0, A1, c0, c1, rfl, rfl, hk, hkq, HQ, HB, HC, H2, HNF⟩ := hrel
    have HI := Aside0.mk (show pleachlaw16_ShelfApart.Inv2 k s from by rw [HQ.out]; exact pleachlaw16_ShelfApart.inv l HZ.out k hk)
    have hfew := HI.out.few
    by_cases hlt2 : k < l.length
    · obtain ⟨x, hx⟩ : ∃ x, rd_T38 l (k : Int) = x := ⟨_, rfl⟩
      obtain ⟨s1, hs1⟩ : ∃ s1, pleachlaw16_does.act s x.f0 x.f1 x.f2 = s1 := ⟨_, rfl⟩
      have HI1 := Aside0.mk (show pleachlaw16_ShelfApart.Inv2 (k + 1) s1 from by
        have := pleachlaw16_ShelfApart.inv l HZ.out (k + 1) (by omega)
        rw [pleachlaw16_ShelfApart.st_succ l k hlt2, ← HQ.out, hx, hs1] at this
        exact this)
      have HQ1 := Aside0.mk (show s1 = pleachlaw16_ShelfApart.st l (k + 1) from by rw [pleachlaw16_ShelfApart.st_succ l k hlt2, ← HQ.out, hx, hs1])
      have hf1 := HI1.out.few
      have HZS := Aside0.mk (fun y (hy : y ∈ s.ts) => Nat.le_trans (HI.out.size y hy) (show 10000 ≤ 1000000 by decide))
      have hxz : x.f2.size ≤ 4000 := by
        have hrd : rd_T38 l (k : Int) = l[k] := by simp [rd_T38, List.getD, hlt2]
        rw [← hx, hrd]
        exact HZ.out _ (List.getElem_mem hlt2)
      obtain ⟨ad, hAL, e0, e1, e2⟩ := at_T38 HR.out (k : Int) (by omega) (by omega)
      rw [hx, Int.toNat_natCast] at e0 e1 e2
      subst hAL
      have q0 := (HB.out.cell (World.block_lt_of_cell? W0 _ e0)).trans e0
      have q1 := (HB.out.cell (World.block_lt_of_cell? W0 _ e1)).trans e1
      have q2 := (HB.out.cell (World.block_lt_of_cell? W0 _ e2)).trans e2
      have HST := Aside0.mk hs1
      have p1 : (k : Int) < (l.length : Int) := by omega
      have p2 : (0 : Int) ≤ (k : Int) := by omega
      have p3 := decide_eq_true p1
      clear e0 e1 e2 hx hs1
      go_wp2_with (first | ((with_reducible refine gate_store (t := 38) (p := 8) (v := .tmp 30) rfl ?_); refine M.wp_rec_store rfl 38 _ _ rfl wr.heap.size 38 [.int .i64 0, .int .i64 0, .string ⟨#[]⟩] [.int .i64 x.f0, .int .i64 x.f1, .string x.f2] rfl rfl (M.rec_new wr 38 [.int .i64 0, .int .i64 0, .string ⟨#[]⟩]) rfl pleachlaw16_ShelfApart.size38 rfl ?_; intro w4 hA4 hF4 hB4 hz4; have hy := hB4 wr.heap.size wr (Nat.le_refl _) (below_alloc (Below.refl _ _) _); have HX4 := Aside0.mk hA4; have HC4 := Aside0.mk (M.rec_below HC.out hy); have H24 := Aside0.mk (H2.out.below hy); have HB4 := Aside0.mk (below_step HB.out hy); have HT4 := Aside0.mk (M.stab_below HT.out HB4.out hlt.out); clear hA4 hF4 hB4 hz4 hy) | ((with_reducible refine gate_dst (N := 33) rfl ?_); (try (refine gate_guard (by rfl) ?_; dsimp only)); refine M.wp_rec_load rfl 41 _ rfl (w2.heap.size) 41 [.slice A0 s.ts.length c0, .slice A1 s.ts.length c1, .string s.a, .string s.b] rfl HC4.out _ Tryd.underlying41 rfl pleachref16_Put.size_ ?_) | ((with_reducible refine gate_dst (N := 34) rfl ?_); (try (refine gate_guard (by rfl) ?_; dsimp only)); refine M.wp_rec_load rfl 38 _ rfl (wr.heap.size) 38 [.int .i64 x.f0, .int .i64 x.f1, .string x.f2] rfl HX4.out _ Tryd.underlying38 rfl pleachlaw16_ShelfApart.size38 ?_) | (go_at_call 15; (with_reducible refine (pleachlaw16_does.any W0.heap.size g F s A0 A1 c0 c1 x.f0 x.f1 x.f2 _ H24.out HT4.out (by omega) HZS.out (by omega) s1 HST.out).mono ?_); rintro e w5 ⟨g1, F1, E0, E1, f0, f1, rfl, h25, hf5, hk5, hb5⟩; have H25 := Aside0.mk h25; have HC5 := Aside0.mk (M.rec_kept HC4.out hk5 HNF.out); have HN5 := Aside0.mk (show ¬ F1 w2.heap.size from fun q => (hf5 _ q).elim HNF.out (fun q => by have := M.rec_lt HC4.out; omega)); have HB5 := Aside0.mk (HB4.out.trans hb5); clear h25 hf5 hk5 hb5) | ((with_reducible refine gate_store (t := 41) (p := 6) (v := .tmp 37) rfl ?_); refine M.wp_rec_store rfl 41 _ _ rfl w2.heap.size 41 [.slice A0 s.ts.length c0, .slice A1 s.ts.length c1, .string s.a, .string s.b] [.slice E0 s1.ts.length f0, .slice E1 s1.ts.length f1, .string s1.a, .string s1.b] rfl rfl HC5.out rfl pleachref16_Put.size_ rfl ?_; intro w6 hA6 hF6 hB6 hz6; have hk6 : Kept w5 w6 (fun k => k = w2.heap.size) := ⟨Nat.le_of_eq hz6.symm, fun i _ hn => hF6 i hn⟩; have HC6 := Aside0.mk hA6; have H26 := Aside0.mk (H25.out.box hk6 HC5.out (by decide) HN5.out); have HB6 := Aside0.mk (hB6 _ _ HW2.out HB5.out); clear hA6 hF6 hB6 hz6 hk6))
      go_roundg (l.length - (k + 1))
      case measure => have := hkq.out; omega
      case rel => exact ⟨k + 1, g1, F1, s1, E0, E1, f0, f1, rfl, by go_num, by omega, ⟨rfl⟩, HQ1, HB6, HC6, H26, HN5⟩
    · obtain rfl : k = l.length := by omega
      have p3 : decide ((l.length : Int) < (l.length : Int)) = false := decide_eq_false (by omega)
      clear hlt2 hk HQ
      have HXr := Aside0.mk (M.rec_low HX0.out HB.out HAL)
      have HI1 := Aside0.mk (pleachlaw16_ShelfApart.invS HI.out a_.f0 a_.f1 a_.f2 (by omega))
      obtain ⟨s1, hs1⟩ : ∃ s1, pleachlaw16_does.act s a_.f0 a_.f1 a_.f2 = s1 := ⟨_, rfl⟩
      rw [hs1] at HI1
      have HST := Aside0.mk hs1
      have hf1 := HI1.out.few
      have HZS := Aside0.mk (fun y (hy : y ∈ s.ts) => Nat.le_trans (HI.out.size y hy) (show 10000 ≤ 1000000 by decide))
      have HCP := Aside0.mk (M.SS.copy_ H2.out.sh.nd HI.out.ne (fun y hy => Nat.le_trans (HI.out.size y hy) (show 10000 ≤ 65536 by decide)))
      have HFW := Aside0.mk H2.out.sh.lt
      have HTr := Aside0.mk (M.stab_below HT.out HB.out hlt.out)
      have hxlt := M.rec_lt HXr.out
      have hclt := M.rec_lt HC.out
      clear hs1
      go_wp2_with (first | (go_at_call 16; (with_reducible refine (shelf_Shelf_Copy.any W0.heap.size g F s _ H2.out.sh HTr.out HZS.out (by omega)).mono ?_); rintro e wc ⟨g2, F2, rfl, hs2, hb⟩; rw [HCP.out] at hs2; have HSc := Aside0.mk (show M.Sh Tryd.prog wr.heap.size wc g2 F2 s from hs2); have HGc := Aside0.mk HSc.out.ge; have HRc := Aside0.mk (H2.out.rw_.step (G1 := fun k => F k ∨ F2 k) (Kept.of_below hb F) (fun k hk => hk.imp id (fun q => HGc.out k q))); have HSs := Aside0.mk (H2.out.sh.below hb); have HCc := Aside0.mk (M.rec_below HC.out hb); have HXc := Aside0.mk (M.rec_below HXr.out hb); have HBc := Aside0.mk (below_step HB.out hb); have HZc := Aside0.mk hb.size; clear hs2 hb) | ((with_reducible refine gate_dst (N := 43) rfl ?_); (try (refine gate_guard (by rfl) ?_; dsimp only)); refine M.wp_rec_load rfl 41 _ rfl (w2.heap.size) 41 [.slice A0 s.ts.length c0, .slice A1 s.ts.length c1, .string s.a, .string s.b] rfl HCc.out _ Tryd.underlying41 rfl pleachref16_Put.size_ ?_) | (go_at_call 17; (with_reducible refine (pleachlaw16_same.yes wr.heap.size g2 F2 s A0 A1 c0 c1 _ (HRc.out.two HSc.out (fun k hk => .inr hk)) HI.out.ab (by omega)).mono ?_); rintro e wd ⟨rfl, hb⟩; have HRd := Aside0.mk (HRc.out.below hb); have HSd := Aside0.mk (HSc.out.below hb); have HSsd := Aside0.mk (HSs.out.below hb); have HCd := Aside0.mk (M.rec_below HCc.out hb); have HXd := Aside0.mk (M.rec_below HXc.out hb); have HBd := Aside0.mk (below_step HBc.out hb); have HTd := Aside0.mk (M.stab_below HT.out HBd.out hlt.out); have HZd := Aside0.mk (Nat.le_trans HZc.out hb.size); clear hb) | ((with_reducible refine gate_dst (N := 48) rfl ?_); (try (refine gate_guard (by rfl) ?_; dsimp only)); refine M.wp_rec_load rfl 41 _ rfl (w2.heap.size) 41 [.slice A0 s.ts.length c0, .slice A1 s.ts.length c1, .string s.a, .string s.b] rfl HCd.out _ Tryd.underlying41 rfl pleachref16_Put.size_ ?_) | ((with_reducible refine gate_dst (N := 49) rfl ?_); (try (refine gate_guard (by rfl) ?_; dsimp only)); refine M.wp_rec_load rfl 38 _ rfl (w.heap.size) 38 [.int .i64 a_.f0, .int .i64 a_.f1, .string a_.f2] rfl HXd.out _ Tryd.underlying38 rfl pleachlaw16_ShelfApart.size38 ?_) | (go_at_call 15; (with_reducible refine (pleachlaw16_does.any wr.heap.size g2 F2 s A0 A1 c0 c1 a_.f0 a_.f1 a_.f2 _ (HRd.out.two HSd.out (fun k hk => .inr hk)) HTd.out (by omega) HZS.out (by omega) s1 HST.out).mono ?_); rintro e we ⟨g3, F3, E0, E1, f0, f1, rfl, h3, hf3, hk3, hb3⟩; have H3 := Aside0.mk h3; have HRe := Aside0.mk (HRd.out.step (G1 := F) (hk3.mono (fun k hk => .inr hk)) (fun k hk => .inl (.inl hk))); have HSse := Aside0.mk (HSsd.out.kept hk3 (fun k hk e => by have := HFW.out k hk; have := HGc.out k e; omega)); have HCe := Aside0.mk (M.rec_kept HCd.out hk3 (fun e => by have := HGc.out _ e; omega)); have HBe := Aside0.mk (HBd.out.trans (hb3.mono HB.out.size)); clear h3 hf3 hk3 hb3) | ((with_reducible refine gate_store (t := 41) (p := 11) (v := .tmp 52) rfl ?_); refine M.wp_rec_store rfl 41 _ _ rfl we.heap.size 41 [.slice none 0 0, .slice none 0 0, .string ⟨#[]⟩, .string ⟨#[]⟩] [.slice E0 s1.ts.length f0, .slice E1 s1.ts.length f1, .string s1.a, .string s1.b] rfl rfl (M.rec_new we 41 [.slice none 0 0, .slice none 0 0, .string ⟨#[]⟩, .string ⟨#[]⟩]) rfl pleachref16_Put.size_ rfl ?_; intro wf hA4 hF4 hB4 hz4; have hy := hB4 we.heap.size we (Nat.le_refl _) (below_alloc (Below.refl _ _) _); have HCf := Aside0.mk hA4; have H3f := Aside0.mk (H3.out.below hy); have HRf := Aside0.mk (HRe.out.below hy); have HSsf := Aside0.mk (HSse.out.below hy); have HC6f := Aside0.mk (M.rec_below HCe.out hy); have HBf := Aside0.mk (below_step HBe.out hy); clear hA4 hF4 hB4 hz4 hy) | ((with_reducible refine gate_dst (N := 57) rfl ?_); (try (refine gate_guard (by rfl) ?_; dsimp only)); refine M.wp_rec_load rfl 41 _ rfl (we.heap.size) 41 [.slice E0 s1.ts.length f0, .slice E1 s1.ts.length f1, .string s1.a, .string s1.b] rfl HCf.out _ Tryd.underlying41 rfl pleachref16_Put.size_ ?_) | (go_at_call 17; (with_reducible refine (pleachlaw16_same.yes wr.heap.size g3 F3 s1 E0 E1 f0 f1 _ H3f.out HI1.out.ab (by omega)).mono ?_); rintro e wg ⟨rfl, hb⟩; have HRg := Aside0.mk (HRf.out.below hb); have HSsg := Aside0.mk (HSsf.out.below hb); have HC6g := Aside0.mk (M.rec_below HC6f.out hb); have HBg := Aside0.mk (below_step HBf.out hb); clear hb) | ((with_reducible refine gate_dst (N := 62) rfl ?_); (try (refine gate_guard (by rfl) ?_; dsimp only)); refine M.wp_rec_load rfl 41 _ rfl (w2.heap.size) 41 [.slice A0 s.ts.length c0, .slice A1 s.ts.length c1, .string s.a, .string s.b] rfl HC6g.out _ Tryd.underlying41 rfl pleachref16_Put.size_ ?_) | (go_at_call 17; (with_reducible refine (pleachlaw16_same.yes W0.heap.size g F s A0 A1 c0 c1 _ (HRg.out.two HSsg.out (fun k hk => hk)) HI.out.ab (by omega)).mono ?_); rintro e wh ⟨rfl, hb⟩; have HBh := Aside0.mk (below_step HBg.out hb); have HTh := Aside0.mk (M.stab_below HT.out HBh.out hlt.out); clear hb) | (go_at_call 8; (with_reducible refine (pleachlaw16_awake.walk _ HTh.out).mono ?_); rintro e w9 ⟨rfl, hb9⟩; have HB9 := Aside0.mk (below_step HBh.out hb9); clear hb9))
      go_ret
      exact ⟨rfl, below_step HBA.out HB9.out⟩
theorem pleachlaw16_ShelfApart.calls (A0 : Option Addr) (c0 : Nat) (l0 : List S38) (a1_0 : Int) (a1_1 : Int) (a1_2 : ByteArray) (r : Bool) (w : World) (hr0 : Kd.C k38 w A0 l0.length l0) (hc0 : l0.length ≤ c0) (hT : M.stab w) (h : pleachlaw16_ShelfApart.f l0 a1_0 a1_1 a1_2 = some r) :
    Calls Tryd.prog 4 #[.slice A0 l0.length c0, .agg #[.int .i64 a1_0, .int .i64 a1_1, .string a1_2]] w fun e w' => e = .returned (.bool r) ∧ Below w.heap.size w w' := by
  obtain rfl := Option.some.inj h
  obtain ⟨b, hb⟩ : ∃ b, pleachlaw16_few.f l0 = some b := ⟨_, rfl⟩
  obtain ⟨b2, hb2⟩ : ∃ b2, pleachlaw16_few.f [(⟨a1_0, a1_1, a1_2⟩ : S38)] = some b2 := ⟨_, rfl⟩
  cases b with
  | false => exact pleachlaw16_ShelfApart.out1 A0 c0 l0 ⟨a1_0, a1_1, a1_2⟩ w hr0 hc0 hT hb
  | true =>
    cases b2 with
    | false => exact pleachlaw16_ShelfApart.out2 A0 c0 l0 ⟨a1_0, a1_1, a1_2⟩ w hr0 hc0 hT hb hb2
    | true => exact pleachlaw16_ShelfApart.in_ A0 c0 l0 ⟨a1_0, a1_1, a1_2⟩ w hr0 hc0 hT hb hb2

/-- What is known of a record that came in. -/
def Good38 (x : S38) : Prop := ((Lit.int .i64 x.f0).wf = true) ∧ ((Lit.int .i64 x.f1).wf = true) ∧ (x.f2.size ≤ 9223372036854775807)
/-- THE ONE PURE STATEMENT of pleachlaw16_ShelfApart: this session's form. -/
def pleachlaw16_ShelfApart.Pure : Prop := ∀ (l0 : List (S38)) (a1_0 : Int) (a1_1 : Int) (a1_2 : ByteArray), ((∀ y ∈ l0, Good38 y) ∧ l0.length ≤ 9223372036854775807) → ((Lit.int .i64 a1_0).wf = true) → ((Lit.int .i64 a1_1).wf = true) → (a1_2.size ≤ 9223372036854775807) → pleachlaw16_ShelfApart.f l0 a1_0 a1_1 a1_2 = some true
end Go.Proofs.YtccekjebfafgcaaDoor.EShelfApart
