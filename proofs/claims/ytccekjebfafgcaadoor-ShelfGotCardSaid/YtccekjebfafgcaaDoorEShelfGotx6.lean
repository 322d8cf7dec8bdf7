-- Written by this session's own program (wip/tools/ext.py) for this claim; Lean checks it.
import Derived.Test.YtccekjebfafgcaaDoorEShelfGotx0
import Derived.Test.YtccekjebfafgcaaDoorEShelfGotx1
import Derived.Test.YtccekjebfafgcaaDoorEShelfGotx2
import Derived.Test.YtccekjebfafgcaaDoorEShelfGotx5
namespace Go.Proofs.YtccekjebfafgcaaDoor.EShelfGot
open Go.RowKit Go.Proofs.YtccekjebfafgcaaDoorW.PrintWords Go.Proofs.YtccekjebfafgcaaDoorW.PrintLast Go.Proofs.YtccekjebfafgcaaDoorW.PrintMore
attribute [local go_sem] M.run_leq M.run_gtr M.run_geq max2_int min2_int max_two min_two max_three min_three max_four min_four   -- for this text's walks alone
set_option linter.unusedVariables false
set_option linter.unusedSimpArgs false

/-! ### pleachlaw16_awake: function 8 -/
def pleachlaw16_awake.f : Option Bool := some true
def pleachlaw16_awake.a : ByteArray := ⟨#[97]⟩
theorem pleachlaw16_awake.ne : pleachlaw16_awake.a ≠ ByteArray.empty := by decide +kernel
theorem pleachlaw16_awake.put1 : M.SS.none_.put pleachlaw16_awake.a = (M.shaSum pleachlaw16_awake.a, 0, ⟨[pleachlaw16_awake.a], ByteArray.empty, ByteArray.empty⟩) := by
  unfold M.SS.put
  rw [if_neg pleachlaw16_awake.ne, if_neg (by decide)]
  rfl
theorem pleachlaw16_awake.put2 : (⟨[pleachlaw16_awake.a], ByteArray.empty, ByteArray.empty⟩ : M.SS).put pleachlaw16_awake.a = (M.shaSum pleachlaw16_awake.a, 0, ⟨[pleachlaw16_awake.a], ByteArray.empty, ByteArray.empty⟩) := by
  unfold M.SS.put
  rw [if_neg pleachlaw16_awake.ne, if_neg (by decide)]
  have h : M.idx (([pleachlaw16_awake.a] : List ByteArray).map M.shaSum) (M.shaSum pleachlaw16_awake.a).data.toList = some 0 := by
    unfold M.idx
    rw [List.map_cons, List.findIdx?_cons, decide_eq_true rfl]
    rfl
  simp only [h]
  exact if_pos rfl
theorem pleachlaw16_awake.p1 (base g : Nat) (F : Nat → Prop) (s : ByteArray) (hs : M.shaSum ⟨#[97]⟩ = s) (w : World) (hS : M.Sh Tryd.prog base w g F M.SS.none_) (hT : M.stab w) :
    Calls Tryd.prog 10 #[.pointer (some ⟨g, 0, none⟩), .string ⟨#[97]⟩] w fun e w' => e = .returned (.tuple #[.string s, .int .i64 0]) ∧ M.ShTo Tryd.prog base w g F ⟨[⟨#[97]⟩], ByteArray.empty, ByteArray.empty⟩ w' := by
  have h := shelf_Shelf_Put.any base g F M.SS.none_ ⟨#[97]⟩ w hS hT (by decide) (by decide)
  rw [show M.SS.none_.put ⟨#[97]⟩ = _ from pleachlaw16_awake.put1] at h
  rw [← hs]
  exact h
theorem pleachlaw16_awake.p2 (base g : Nat) (F : Nat → Prop) (s : ByteArray) (hs : M.shaSum ⟨#[97]⟩ = s) (w : World) (hS : M.Sh Tryd.prog base w g F ⟨[⟨#[97]⟩], ByteArray.empty, ByteArray.empty⟩) (hT : M.stab w) :
    Calls Tryd.prog 10 #[.pointer (some ⟨g, 0, none⟩), .string ⟨#[97]⟩] w fun e w' => e = .returned (.tuple #[.string s, .int .i64 0]) ∧ M.ShTo Tryd.prog base w g F ⟨[⟨#[97]⟩], ByteArray.empty, ByteArray.empty⟩ w' := by
  have h := shelf_Shelf_Put.any base g F ⟨[⟨#[97]⟩], ByteArray.empty, ByteArray.empty⟩ ⟨#[97]⟩ w hS hT (by decide) (by decide)
  rw [show (⟨[⟨#[97]⟩], ByteArray.empty, ByteArray.empty⟩ : M.SS).put ⟨#[97]⟩ = _ from pleachlaw16_awake.put2] at h
  rw [← hs]
  exact h
set_option maxHeartbeats 8000000 in
set_option maxRecDepth 100000 in
theorem pleachlaw16_awake.walk (w : World) (hT : M.stab w) : Calls Tryd.prog 8 #[] w fun e w' => e = .returned (.bool true) ∧ Below w.heap.size w w' := by
  have HT := Aside0.mk hT
  obtain ⟨s, hs⟩ : ∃ s, M.shaSum ⟨#[97]⟩ = s := ⟨_, rfl⟩
  have HSum := Aside0.mk (show pleachref03_Sum.f ⟨#[97]⟩ = some s by rw [← hs]; exact pleachref03_Sum.eq_ _ (by decide))
  have HQ := Aside0.mk hs
  have hlt := Aside0.mk (M.stab_lt hT)
  have H1s : (s.toList == s.toList) = true := by simp
  clear hT hs
  go_enter Tryd.func8, Tryd.ntmps8
  go_wp2_with (first | (go_at_call 9; (with_reducible refine (shelf_New.any _).mono ?_); rintro e w1 ⟨g, F, rfl, hs1, hb1⟩; have HS1 := Aside0.mk hs1; have HB1 := Aside0.mk hb1; have HT1 := Aside0.mk (M.stab_below HT.out hb1 hlt.out); clear hs1 hb1) | (go_at_call 10; (with_reducible refine (pleachlaw16_awake.p1 w.heap.size g F s HQ.out _ HS1.out HT1.out).mono ?_); rintro e w2 ⟨rfl, F2, hs2, hf2, hk2, hb2⟩; have HS2 := Aside0.mk hs2; have HB2 := Aside0.mk (HB1.out.trans hb2); have HT2 := Aside0.mk (M.stab_below HT.out HB2.out hlt.out); clear HS1 hs2 hf2 hk2 hb2) | (go_at_call 10; (with_reducible refine (pleachlaw16_awake.p2 w.heap.size g F2 s HQ.out _ HS2.out HT2.out).mono ?_); rintro e w3 ⟨rfl, F3, hs3, hf3, hk3, hb3⟩; have HS3 := Aside0.mk hs3; have HB3 := Aside0.mk (HB2.out.trans hb3); clear HS2 hs3 hf3 hk3 hb3) | (go_at_call 22; (with_reducible refine (shelf_Shelf_Len.any w.heap.size g F3 _ _ HS3.out).mono ?_); rintro e w4 ⟨rfl, rfl⟩) | (go_at_call 27; (with_reducible refine (pleachref03_Sum.calls ⟨#[97]⟩ s _ HSum.out).mono ?_); rintro e w5 ⟨rfl, hb5⟩; have HB5 := Aside0.mk (below_step HB3.out hb5); clear hb5))
  go_ret
  exact ⟨rfl, HB5.out⟩
theorem pleachlaw16_awake.calls (r : Bool) (w : World) (hT : M.stab w) (h : pleachlaw16_awake.f = some r) : Calls Tryd.prog 8 #[] w fun e w' => e = .returned (.bool r) ∧ Below w.heap.size w w' := by
  obtain rfl := Option.some.inj h
  exact pleachlaw16_awake.walk w hT

/-! ### shelf_Shelf_Clash: function 11 -/
set_option maxHeartbeats 8000000 in
set_option maxRecDepth 100000 in
theorem shelf_Shelf_Clash.calls (base g B : Nat) (D : DataW Unit) (vt vn : Value) (ts : List ByteArray) (a b : ByteArray) (w : World) (hS : M.shelf Tryd.prog base w g B D vt vn ts a b) (hab : a = ByteArray.empty → b = ByteArray.empty) :
    Calls Tryd.prog 11 #[.pointer (some ⟨g, 0, none⟩)] w fun e w' => e = .returned (.tuple #[.string a, .string b, .bool (decide (a ≠ ByteArray.empty))]) ∧ Drawn0 w w' := by
  have c3 : w.cell? ⟨g, 3, none⟩ = some (.string a) := M.blk_cell hS.blk 3 _ rfl
  have c4 : w.cell? ⟨g, 4, none⟩ = some (.string b) := M.blk_cell hS.blk 4 _ rfl
  have HS := Aside0.mk hS
  clear hS
  by_cases he : a = ByteArray.empty
  · obtain rfl := hab he
    subst he
    have hd : (ByteArray.empty : ByteArray).toList.isEmpty = true := by decide +kernel
    go_enter Tryd.func11, Tryd.ntmps11
    go_wp2_with (first | (go_at_call 28; (with_reducible refine (shelf_Shelf_there.calls base g B D vt vn ts ByteArray.empty ByteArray.empty _ HS.out).mono ?_); rintro e w1 ⟨rfl, rfl⟩))
    exact bodyPost_ret (v := .tuple #[.string ByteArray.empty, .string ByteArray.empty, .bool false]) (by simp [results, Tryd.results11, go_sem]; rfl) rfl ⟨rfl, Drawn0.refl _⟩
  · have hd : a.toList.isEmpty = false := M.nonempty he
    have hdd : decide (a ≠ ByteArray.empty) = true := decide_eq_true he
    rw [hdd]
    go_enter Tryd.func11, Tryd.ntmps11
    go_wp2_with (first | (go_at_call 28; (with_reducible refine (shelf_Shelf_there.calls base g B D vt vn ts a b _ HS.out).mono ?_); rintro e w1 ⟨rfl, rfl⟩))
    go_quiet (fail)
    go_wp2
    exact bodyPost_ret (v := .tuple #[.string a, .string b, .bool true]) (by simp [results, Tryd.results11, go_sem]) rfl ⟨rfl, ⟨⟨_, rfl⟩⟩⟩
theorem shelf_Shelf_Clash.any (base g : Nat) (F : Nat → Prop) (s : M.SS) (w : World) (hS : M.Sh Tryd.prog base w g F s) (hab : s.a = ByteArray.empty → s.b = ByteArray.empty) :
    Calls Tryd.prog 11 #[.pointer (some ⟨g, 0, none⟩)] w fun e w' => e = .returned (.tuple #[.string s.a, .string s.b, .bool (decide (s.a ≠ ByteArray.empty))]) ∧ Drawn0 w w' := by
  obtain ⟨B, D, vt, vn, hs, hF, hl⟩ := hS
  exact shelf_Shelf_Clash.calls base g B D vt vn s.ts s.a s.b w hs hab

/-! ### shelf_Shelf_Get: function 13 -/
set_option maxHeartbeats 8000000 in
set_option maxRecDepth 100000 in
theorem shelf_Shelf_Get.none_ (base g B : Nat) (D : DataW Unit) (vt vn : Value) (ts : List ByteArray) (a b name : ByteArray) (w : World) (hS : M.shelf Tryd.prog base w g B D vt vn ts a b) (hz : name.size ≤ 1000000000000) (hn : M.idx (ts.map M.shaSum) name.data.toList = none) :
    Calls Tryd.prog 13 #[.pointer (some ⟨g, 0, none⟩), .string name] w fun e w' => e = .returned (.tuple #[.string ByteArray.empty, .bool false]) ∧ w = w' := by
  have c0 : w.cell? ⟨g, 0, none⟩ = some (.map (some B)) := M.blk_cell hS.blk 0 _ rfl
  have hKEY := Go.WideMaps.keyOf_string_mk Tryd.underlying9 (show name.size ≤ maxLen from by unfold maxLen; omega)
  have hown := hS.map
  have h1 := (hS.says name.data.toList).1
  have h2 := (hS.says name.data.toList).2
  rw [hn] at h1 h2
  have HS := Aside0.mk hS
  clear hS
  go_enter Tryd.func13, Tryd.ntmps13
  go_wp2_with (first | (go_at_call 28; (with_reducible refine (shelf_Shelf_there.calls base g B D vt vn ts a b _ HS.out).mono ?_); rintro e w1 ⟨rfl, rfl⟩) | (at_lookup; refine wpList_lookup_own_ok_int _ rfl _ _ 51 rfl 9 3 .i64 shelf_Shelf_there.law Tryd.underlying51 Tryd.underlying3 (shelf_Shelf_there.zero_ _) B ts.length D rfl hown _ _ rfl hKEY ?_; intro c hat hwc))
  exact bodyPost_ret (v := .tuple #[.string ByteArray.empty, .bool false]) (by simp [results, Tryd.results13, go_sem]; rfl) rfl ⟨rfl, rfl⟩
set_option maxHeartbeats 8000000 in
set_option maxRecDepth 100000 in
theorem shelf_Shelf_Get.some_ (base g B : Nat) (D : DataW Unit) (vt vn : Value) (ts : List ByteArray) (a b name : ByteArray) (i : Nat) (w : World) (hS : M.shelf Tryd.prog base w g B D vt vn ts a b) (hz : name.size ≤ 1000000000000) (hn : M.idx (ts.map M.shaSum) name.data.toList = some i) :
    Calls Tryd.prog 13 #[.pointer (some ⟨g, 0, none⟩), .string name] w fun e w' => e = .returned (.tuple #[.string (ts.getD i ByteArray.empty), .bool true]) ∧ w = w' := by
  have hi : i < ts.length := by have := (M.idx_lt hn).1; simpa using this
  obtain ⟨gt, cap, rfl, _, _⟩ := hS.rt.form (by omega)
  have c0 : w.cell? ⟨g, 0, none⟩ = some (.map (some B)) := M.blk_cell hS.blk 0 _ rfl
  have c1 : w.cell? ⟨g, 1, none⟩ = some (.slice (some ⟨gt, 0, none⟩) ts.length cap) := M.blk_cell hS.blk 1 _ rfl
  have ci := hS.rt.cells (g := gt) rfl i (.string (ts.getD i ByteArray.empty)) (by simp [List.getD, hi])
  rw [add_plain] at ci
  have hKEY := Go.WideMaps.keyOf_string_mk Tryd.underlying9 (show name.size ≤ maxLen from by unfold maxLen; omega)
  have hown := hS.map
  have h1 := (hS.says name.data.toList).1
  have h2 := (hS.says name.data.toList).2
  rw [hn] at h1 h2
  have HS := Aside0.mk hS
  have g0 : (0 : Int) ≤ (i : Int) := by omega
  have g1 : (i : Int) < (ts.length : Int) := by omega
  clear hS
  generalize ts.getD i ByteArray.empty = x at ci ⊢
  go_enter Tryd.func13, Tryd.ntmps13
  go_wp2_with (first | (go_at_call 28; (with_reducible refine (shelf_Shelf_there.calls base g B D _ vn ts a b _ HS.out).mono ?_); rintro e w1 ⟨rfl, rfl⟩) | (at_lookup; refine wpList_lookup_own_ok_int _ rfl _ _ 51 rfl 9 3 .i64 shelf_Shelf_there.law Tryd.underlying51 Tryd.underlying3 (shelf_Shelf_there.zero_ _) B ts.length D rfl hown _ _ rfl hKEY ?_; intro c hat hwc; obtain rfl : c = (i : Int) := by (rw [h2] at hat; simpa using hat.symm)))
  exact bodyPost_ret (v := .tuple #[.string x, .bool true]) (by simp [results, Tryd.results13, go_sem]) rfl ⟨rfl, rfl⟩
theorem shelf_Shelf_Get.any (base g : Nat) (F : Nat → Prop) (s : M.SS) (name : ByteArray) (w : World) (hS : M.Sh Tryd.prog base w g F s) (hz : name.size ≤ 1000000000000) :
    Calls Tryd.prog 13 #[.pointer (some ⟨g, 0, none⟩), .string name] w fun e w' => e = .returned (.tuple #[.string (s.get name).1, .bool (s.get name).2]) ∧ w = w' := by
  obtain ⟨B, D, vt, vn, hs, hF, hl⟩ := hS
  unfold M.SS.get
  cases hi : M.idx (s.ts.map M.shaSum) name.data.toList with
  | none => exact shelf_Shelf_Get.none_ base g B D vt vn s.ts s.a s.b name w hs hz hi
  | some i => exact shelf_Shelf_Get.some_ base g B D vt vn s.ts s.a s.b name i w hs hz hi

/-! ### pleachlaw16_ShelfGot: function 3 -/
def pleachlaw16_ShelfGot.f (l0 : List ByteArray) : Option Bool := some true
set_option maxHeartbeats 8000000 in
set_option maxRecDepth 100000 in
theorem pleachlaw16_ShelfGot.out1 (A0 : Option Addr) (c0 : Nat) (l0 : List ByteArray) (w : World) (hr0 : Kd.C Kd.string w A0 l0.length l0) (hc0 : l0.length ≤ c0) (hT : M.stab w) (hf : 40 < l0.length) :
    Calls Tryd.prog 3 #[.slice A0 l0.length c0] w fun e w' => e = .returned (.bool true) ∧ Below w.heap.size w w' := by
  have HT := Aside0.mk hT
  have d1 : decide ((40 : Int) < (l0.length : Int)) = true := decide_eq_true (by omega)
  clear hr0 hT
  go_enter Tryd.func3, Tryd.ntmps3
  go_wp2_with (first | (go_at_call 8; (with_reducible refine (pleachlaw16_awake.walk _ HT.out).mono ?_); rintro e w2 ⟨rfl, hb2⟩))
  go_ret
  exact ⟨rfl, hb2⟩
set_option maxHeartbeats 8000000 in
set_option maxRecDepth 100000 in
theorem pleachlaw16_ShelfGot.out2 (A0 : Option Addr) (c0 : Nat) (l0 : List ByteArray) (w : World) (hr0 : Kd.C Kd.string w A0 l0.length l0) (hc0 : l0.length ≤ c0) (hT : M.stab w) (hf : l0.length ≤ 40) (hb : 4000 < M.bytesN 0 l0) :
    Calls Tryd.prog 3 #[.slice A0 l0.length c0] w fun e w' => e = .returned (.bool true) ∧ Below w.heap.size w w' := by
  have HT := Aside0.mk hT
  have HR := Aside0.mk hr0
  have HF : Aside0 (pleachplain_Bytes.f l0 = some ((M.bytesN 0 l0 : Nat) : Int)) := ⟨if_pos (by omega)⟩
  have d1 : decide ((40 : Int) < (l0.length : Int)) = false := decide_eq_false (by omega)
  generalize M.bytesN 0 l0 = n at hb HF
  have d2 : decide ((4000 : Int) < (n : Int)) = true := decide_eq_true (by omega)
  clear hr0 hT hb
  go_enter Tryd.func3, Tryd.ntmps3
  go_wp2_with (first | (go_at_call 7; (with_reducible refine (pleachplain_Bytes.calls A0 c0 l0 (n : Int) _ HR.out hc0 HF.out).mono ?_); rintro e w1 ⟨rfl, hb1⟩; have HB1 := Aside0.mk hb1; have HT1 := Aside0.mk (M.stab_below HT.out hb1 (M.stab_lt HT.out)); clear hb1) | (go_at_call 8; (with_reducible refine (pleachlaw16_awake.walk _ HT1.out).mono ?_); rintro e w2 ⟨rfl, hb2⟩))
  go_ret
  exact ⟨rfl, below_step HB1.out hb2⟩
def pleachlaw16_ShelfGot.st (l : List ByteArray) (k : Nat) : M.SS := (l.take k).foldl (fun s t => (s.put t).2.2) M.SS.none_
/-- How far it went: no two unlike texts with one sum, each text is got. -/
structure pleachlaw16_ShelfGot.Inv (l : List ByteArray) (k : Nat) (s : M.SS) : Prop where
  fine : s.fine
  few : s.ts.length ≤ k
  mem : ∀ x ∈ s.ts, x ∈ l
  got : ∀ t ∈ l.take k, t ≠ ByteArray.empty → s.get (M.shaSum t) = (t, true)
theorem pleachlaw16_ShelfGot.inv0 (l : List ByteArray) : pleachlaw16_ShelfGot.Inv l 0 M.SS.none_ := ⟨M.SS.fine_none, Nat.zero_le _, fun x h => absurd h List.not_mem_nil, fun t h => absurd h (by simp)⟩
theorem pleachlaw16_ShelfGot.invS {l : List ByteArray} {k : Nat} {s : M.SS} {t : ByteArray} (h : pleachlaw16_ShelfGot.Inv l k s) (hk : k < l.length) (ht : l.getD k ByteArray.empty = t) (hz : t.size ≤ 65536) (h15 : (s.put t).2.1 ≠ 15) :
    pleachlaw16_ShelfGot.Inv l (k + 1) (s.put t).2.2 := by
  obtain ⟨h1, h2, h3, h4⟩ := M.SS.put_fine h.fine t hz h15
  have hlk : l[k] = t := by rw [← ht]; simp [List.getD, hk]
  refine ⟨h1, by have := h.few; omega, fun x hx => (M.SS.put_mem s t x hx).elim (h.mem x) (fun e => by rw [e, ← hlk]; exact List.getElem_mem hk), ?_⟩
  intro x hx hne
  rw [List.take_succ_eq_append_getElem hk, hlk] at hx
  rcases List.mem_append.1 hx with hx | hx
  · exact h3 _ _ (h.got x hx hne)
  · obtain rfl := List.mem_singleton.1 hx
    rcases h2 with ⟨e, _⟩ | ⟨_, _, _, e⟩
    · exact absurd e hne
    · exact e
theorem pleachlaw16_ShelfGot.put_ (base g : Nat) (F : Nat → Prop) (s s1 : M.SS) (t n : ByteArray) (e1 : Int) (w : World) (hS : M.Sh Tryd.prog base w g F s) (hT : M.stab w) (hz : t.size ≤ 4000) (hts : s.ts.length ≤ 40) (h1 : (s.put t).1 = n) (h2 : (s.put t).2.1 = e1) (h3 : (s.put t).2.2 = s1) :
    Calls Tryd.prog 10 #[.pointer (some ⟨g, 0, none⟩), .string t] w fun e w' => e = .returned (.tuple #[.string n, .int .i64 e1]) ∧ M.ShTo Tryd.prog base w g F s1 w' := by
  subst h1 h2 h3
  exact shelf_Shelf_Put.any base g F s t w hS hT (by omega) (by omega)
theorem pleachlaw16_ShelfGot.clash_ (base g : Nat) (F : Nat → Prop) (s : M.SS) (a b : ByteArray) (is_ : Bool) (w : World) (hS : M.Sh Tryd.prog base w g F s) (ha : s.a = a) (hb : s.b = b) (hi : decide (a ≠ ByteArray.empty) = is_) (hab : a = ByteArray.empty → b = ByteArray.empty) :
    Calls Tryd.prog 11 #[.pointer (some ⟨g, 0, none⟩)] w fun e w' => e = .returned (.tuple #[.string a, .string b, .bool is_]) ∧ Drawn0 w w' := by
  subst ha hb hi
  exact shelf_Shelf_Clash.any base g F s w hS hab
theorem pleachlaw16_ShelfGot.sum_ (t n : ByteArray) (w : World) (hT : M.stab w) (hs : t.size ≤ 1000000000000) (hn : M.shaSum t = n) :
    Calls Tryd.prog 12 #[.slice (some ⟨w.heap.size, 0, none⟩) 1 1] (w.alloc (.cells #[.string t] 9)) fun e w' => e = .returned (.string n) ∧ Below w.heap.size w w' := by
  subst hn
  exact sha_Sum.lit t w hT hs
theorem pleachlaw16_ShelfGot.get_ (base g : Nat) (F : Nat → Prop) (s : M.SS) (name x : ByteArray) (ok : Bool) (w : World) (hS : M.Sh Tryd.prog base w g F s) (hz : name.size ≤ 1000000000000) (h : s.get name = (x, ok)) :
    Calls Tryd.prog 13 #[.pointer (some ⟨g, 0, none⟩), .string name] w fun e w' => e = .returned (.tuple #[.string x, .bool ok]) ∧ w = w' := by
  have := shelf_Shelf_Get.any base g F s name w hS hz
  rw [h] at this
  exact this
set_option maxHeartbeats 8000000 in
set_option maxRecDepth 100000 in
theorem pleachlaw16_ShelfGot.in_ (A0 : Option Addr) (c0 : Nat) (l0 : List ByteArray) (w : World) (hr0 : Kd.C Kd.string w A0 l0.length l0) (hc0 : l0.length ≤ c0) (hT : M.stab w) (hf : l0.length ≤ 40) (hb : M.bytesN 0 l0 ≤ 4000) :
    Calls Tryd.prog 3 #[.slice A0 l0.length c0] w fun e w' => e = .returned (.bool true) ∧ Below w.heap.size w w' := by
  have HT := Aside0.mk hT
  have HR := Aside0.mk hr0
  have HF : Aside0 (pleachplain_Bytes.f l0 = some ((M.bytesN 0 l0 : Nat) : Int)) := ⟨if_pos (by omega)⟩
  have HZ := Aside0.mk (fun (t : ByteArray) (ht : t ∈ l0) => Nat.le_trans (M.bytesN_each l0 0 (by omega) t ht) hb)
  have hlt := Aside0.mk (M.stab_lt hT)
  have d1 : decide ((40 : Int) < (l0.length : Int)) = false := decide_eq_false (by omega)
  generalize M.bytesN 0 l0 = n at hb HF
  have d2 : decide ((4000 : Int) < (n : Int)) = false := decide_eq_false (by omega)
  clear hr0 hT hb
  go_enter Tryd.func3, Tryd.ntmps3
  go_wp2_with (first | (go_at_call 7; (with_reducible refine (pleachplain_Bytes.calls A0 c0 l0 (n : Int) _ HR.out hc0 HF.out).mono ?_); rintro e w1 ⟨rfl, hb1⟩; have HB1 := Aside0.mk hb1; clear hb1) | (go_at_call 9; (with_reducible refine (shelf_New.any _).mono ?_); rintro e w2 ⟨g, F, rfl, hs2, hb2⟩; have HS2 := Aside0.mk (M.Sh.lower hs2 HB1.out.size); have HB2 := Aside0.mk (below_step HB1.out hb2); clear hs2 hb2 HB1))
  go_loopg [30] (l0.length) (fun kq v30 wr => ∃ (k : Nat) (F : Nat → Prop) (s : M.SS), v30 = .int .i64 (k : Int) ∧ k ≤ l0.length ∧ Aside0 (kq = l0.length - k) ∧ Aside0 (M.Sh Tryd.prog w.heap.size wr g F s) ∧ Aside0 (Below w.heap.size w wr) ∧ Aside0 (pleachlaw16_ShelfGot.Inv l0 k s))
  case atStart => exact ⟨0, F, M.SS.none_, rfl, Nat.zero_le _, ⟨rfl⟩, HS2, HB2, ⟨pleachlaw16_ShelfGot.inv0 l0⟩⟩
  case round =>
    clear HS2 HB2
    obtain ⟨k, F, s, rfl, hk, hkq, HS, HB, HI⟩ := hrel
    by_cases hlt2 : k < l0.length
    · obtain ⟨t, ht⟩ : ∃ t, t = l0.getD k ByteArray.empty := ⟨_, rfl⟩
      have htm : t ∈ l0 := by rw [ht]; exact M.getD_mem hlt2
      have hz4 := HZ.out t htm
      obtain ⟨ad, hA0, hcell⟩ := Kd.at_string HR.out (k : Int) (by omega) (by omega)
      rw [show rdOf ByteArray.empty l0 (k : Int) = t from by rw [ht]; rfl, Int.toNat_natCast] at hcell
      subst hA0
      have hc := (HB.out.cell (World.block_lt_of_cell? w _ hcell)).trans hcell
      have p1 : (k : Int) < (l0.length : Int) := by omega
      have p2 : (0 : Int) ≤ (k : Int) := by omega
      have p3 := decide_eq_true p1
      have HTr := Aside0.mk (M.stab_below HT.out HB.out hlt.out)
      have hfew := HI.out.few
      have HTT := Aside0.mk ht
      clear hcell ht htm
      by_cases h15 : (s.put t).2.1 = 15
      · obtain ⟨x, hp, hx0, ht0, hxt, hsum, hxm⟩ := M.SS.put_clash HI.out.fine t h15
        have hq1 := decide_eq_true hx0
        have hq2 : (x.toList != t.toList) = true := M.unlike hxt
        have hxz : x.size ≤ 1000000000000 := by have := HZ.out x (HI.out.mem x hxm); omega
        have hq4 : (x.toList == t.toList) = false := by simpa using hq2
        obtain ⟨m, hm⟩ : ∃ m, M.shaSum t = m := ⟨_, rfl⟩
        have HM := Aside0.mk hm
        have HMX := Aside0.mk (hsum.trans hm)
        have hq3 : (m.toList == m.toList) = true := by simp
        have HP := Aside0.mk hp
        have H15 := Aside0.mk h15
        have HX0 := Aside0.mk hx0
        clear hm hp h15 hx0 hxt ht0 hsum hxm
        go_wp2_with (first | (go_at_call 10; (with_reducible refine (pleachlaw16_ShelfGot.put_ w.heap.size g F s ⟨s.ts, x, t⟩ t _ 15 _ HS.out HTr.out hz4 (by omega) rfl H15.out HP.out).mono ?_); rintro e w3 ⟨rfl, F3, hs3, hf3, hk3, hb3⟩; have HS3 := Aside0.mk hs3; have HB3 := Aside0.mk (HB.out.trans hb3); clear hs3 hf3 hk3 hb3) | (go_at_call 11; (with_reducible refine (pleachlaw16_ShelfGot.clash_ w.heap.size g F3 ⟨s.ts, x, t⟩ x t true _ HS3.out rfl rfl hq1 (fun e => absurd e HX0.out)).mono ?_); rintro e w4 ⟨rfl, hd4⟩; have HB4 := Aside0.mk (below_step HB3.out hd4.below); have HT4 := Aside0.mk (M.stab_below HT.out HB4.out hlt.out); clear hd4) | (go_at_call 12; (with_reducible refine (pleachlaw16_ShelfGot.sum_ x m _ HT4.out hxz HMX.out).mono ?_); rintro e w5 ⟨rfl, hb5⟩; have HB5 := Aside0.mk (below_step HB4.out hb5); have HT5 := Aside0.mk (M.stab_below HT.out HB5.out hlt.out); clear HT4 hb5) | (go_at_call 12; (with_reducible refine (pleachlaw16_ShelfGot.sum_ t m _ HT5.out (by omega) HM.out).mono ?_); rintro e w6 ⟨rfl, hb6⟩; have HB6 := Aside0.mk (below_step HB5.out hb6); have HT6 := Aside0.mk (M.stab_below HT.out HB6.out hlt.out); clear HT5 hb6) | (go_at_call 8; (with_reducible refine (pleachlaw16_awake.walk _ HT6.out).mono ?_); rintro e w7 ⟨rfl, hb7⟩; have HB7 := Aside0.mk (below_step HB6.out hb7); clear hb7))
        go_ret
        exact ⟨rfl, HB7.out⟩
      · have hI := pleachlaw16_ShelfGot.invS HI.out hlt2 HTT.out.symm (by omega) h15
        have hpf := (M.SS.put_fine HI.out.fine t (by omega) h15).2.1
        have HI2 := Aside0.mk hI
        clear hI h15
        rcases hpf with ⟨ht0, hp⟩ | ⟨ht0, hp1, hp2, _⟩
        · subst ht0
          have hd0 : (ByteArray.empty : ByteArray).toList.isEmpty = true := by decide +kernel
          have HP := Aside0.mk hp
          rw [hp] at HI2
          clear hp
          go_wp2_with (first | (go_at_call 10; (with_reducible refine (pleachlaw16_ShelfGot.put_ w.heap.size g F s s ByteArray.empty ByteArray.empty 2 _ HS.out HTr.out hz4 (by omega) (by rw [HP.out]) (by rw [HP.out]) (by rw [HP.out])).mono ?_); rintro e w3 ⟨rfl, F3, hs3, hf3, hk3, hb3⟩; have HS3 := Aside0.mk hs3; have HB3 := Aside0.mk (HB.out.trans hb3); clear hs3 hf3 hk3 hb3))
          go_roundg (l0.length - (k + 1))
          case rel => exact ⟨k + 1, F3, s, by go_num, by omega, ⟨rfl⟩, HS3, HB3, HI2⟩
          case measure => have := hkq.out; omega
        · have hd0 := M.nonempty ht0
          obtain ⟨m, hm⟩ : ∃ m, M.shaSum t = m := ⟨_, rfl⟩
          obtain ⟨s1, hs1⟩ : ∃ s1, (s.put t).2.2 = s1 := ⟨_, rfl⟩
          have HM := Aside0.mk hm
          have HP1 := Aside0.mk (hp1.trans hm)
          have HP2 := Aside0.mk hp2
          have HP3 := Aside0.mk hs1
          rw [hs1] at HI2
          have hq3 : (m.toList != m.toList) = false := by simp
          clear hp1 hp2 hm hs1 ht0
          go_wp2_with (first | (go_at_call 10; (with_reducible refine (pleachlaw16_ShelfGot.put_ w.heap.size g F s s1 t m 0 _ HS.out HTr.out hz4 (by omega) HP1.out HP2.out HP3.out).mono ?_); rintro e w3 ⟨rfl, F3, hs3, hf3, hk3, hb3⟩; have HS3 := Aside0.mk hs3; have HB3 := Aside0.mk (HB.out.trans hb3); have HT3 := Aside0.mk (M.stab_below HT.out HB3.out hlt.out); clear hs3 hf3 hk3 hb3) | (go_at_call 12; (with_reducible refine (pleachlaw16_ShelfGot.sum_ t m _ HT3.out (by omega) HM.out).mono ?_); rintro e w5 ⟨rfl, hb5⟩; have HB5 := Aside0.mk (below_step HB3.out hb5); have HS5 := Aside0.mk (HS3.out.below hb5); clear hb5))
          go_roundg (l0.length - (k + 1))
          case rel => exact ⟨k + 1, F3, s1, by go_num, by omega, ⟨rfl⟩, HS5, HB5, HI2⟩
          case measure => have := hkq.out; omega
    · obtain rfl : k = l0.length := by omega
      have hfin := HI.out.fine
      have hsa := hfin.1
      have hsb := hfin.2.1
      have HGot := Aside0.mk HI.out.got
      have p3 : decide ((l0.length : Int) < (l0.length : Int)) = false := decide_eq_false (by omega)
      clear hlt2 hk HI hfin
      have HSA := Aside0.mk hsa
      have HSB := Aside0.mk hsb
      clear hsa hsb
      go_wp2
      go_loopg [85] (l0.length) (fun kq v85 wr => ∃ (k : Nat), v85 = .int .i64 (k : Int) ∧ k ≤ l0.length ∧ Aside0 (kq = l0.length - k) ∧ Aside0 (M.Sh Tryd.prog w.heap.size wr g F s) ∧ Aside0 (Below w.heap.size w wr))
      case atStart => exact ⟨0, rfl, Nat.zero_le _, ⟨rfl⟩, HS, HB⟩
      case round =>
        clear HS HB
        obtain ⟨k, rfl, hk, hkq, HS, HB⟩ := hrel
        by_cases hlt2 : k < l0.length
        · obtain ⟨t, ht⟩ : ∃ t, t = l0.getD k ByteArray.empty := ⟨_, rfl⟩
          have htm : t ∈ l0 := by rw [ht]; exact M.getD_mem hlt2
          have hz4 := HZ.out t htm
          have hg := HGot.out t (by rw [List.take_length]; exact htm)
          obtain ⟨ad, hA0, hcell⟩ := Kd.at_string HR.out (k : Int) (by omega) (by omega)
          rw [show rdOf ByteArray.empty l0 (k : Int) = t from by rw [ht]; rfl, Int.toNat_natCast] at hcell
          subst hA0
          have hc := (HB.out.cell (World.block_lt_of_cell? w _ hcell)).trans hcell
          have p1 : (k : Int) < (l0.length : Int) := by omega
          have p2 : (0 : Int) ≤ (k : Int) := by omega
          have p3 := decide_eq_true p1
          have HTr := Aside0.mk (M.stab_below HT.out HB.out hlt.out)
          obtain ⟨m, hm⟩ : ∃ m, M.shaSum t = m := ⟨_, rfl⟩
          have hms : m.size ≤ 1000000000000 := by rw [← hm, M.shaSum_size]; decide
          have HM := Aside0.mk hm
          rw [hm] at hg
          clear hcell ht htm hm
          by_cases ht0 : t = ByteArray.empty
          · obtain ⟨⟨x, ok⟩, hx⟩ : ∃ y, s.get m = y := ⟨_, rfl⟩
            have HX := Aside0.mk hx
            subst ht0
            have hd0 : (ByteArray.empty : ByteArray).toList.isEmpty = true := by decide +kernel
            clear hg hx
            go_wp2_with (first | (go_at_call 12; (with_reducible refine (pleachlaw16_ShelfGot.sum_ ByteArray.empty m _ HTr.out (by decide) HM.out).mono ?_); rintro e w5 ⟨rfl, hb5⟩; have HB5 := Aside0.mk (below_step HB.out hb5); have HS5 := Aside0.mk (HS.out.below hb5); clear hb5) | (go_at_call 13; (with_reducible refine (pleachlaw16_ShelfGot.get_ w.heap.size g F s m x ok _ HS5.out hms HX.out).mono ?_); rintro e w6 ⟨rfl, rfl⟩))
            go_roundg (l0.length - (k + 1))
            case measure => have := hkq.out; omega
            case rel => exact ⟨k + 1, by go_num, by omega, ⟨rfl⟩, HS5, HB5⟩
          · have HX := Aside0.mk (hg ht0)
            have hd0 := M.nonempty ht0
            have hq3 : (t.toList != t.toList) = false := by simp
            clear hg ht0
            go_wp2_with (first | (go_at_call 12; (with_reducible refine (pleachlaw16_ShelfGot.sum_ t m _ HTr.out (by omega) HM.out).mono ?_); rintro e w5 ⟨rfl, hb5⟩; have HB5 := Aside0.mk (below_step HB.out hb5); have HS5 := Aside0.mk (HS.out.below hb5); clear hb5) | (go_at_call 13; (with_reducible refine (pleachlaw16_ShelfGot.get_ w.heap.size g F s m t true _ HS5.out hms HX.out).mono ?_); rintro e w6 ⟨rfl, rfl⟩))
            go_roundg (l0.length - (k + 1))
            case measure => have := hkq.out; omega
            case rel => exact ⟨k + 1, by go_num, by omega, ⟨rfl⟩, HS5, HB5⟩
        · obtain rfl : k = l0.length := by omega
          have p3 : decide ((l0.length : Int) < (l0.length : Int)) = false := decide_eq_false (by omega)
          have hq1 : decide (ByteArray.empty ≠ ByteArray.empty) = false := decide_eq_false (fun h => h rfl)
          clear hlt2 hk
          go_wp2_with (first | (go_at_call 11; (with_reducible refine (pleachlaw16_ShelfGot.clash_ w.heap.size g F s ByteArray.empty ByteArray.empty false _ HS.out HSA.out HSB.out hq1 (fun _ => rfl)).mono ?_); rintro e w4 ⟨rfl, hd4⟩; have HB4 := Aside0.mk (below_step HB.out hd4.below); have HT4 := Aside0.mk (M.stab_below HT.out HB4.out hlt.out); clear hd4) | (go_at_call 8; (with_reducible refine (pleachlaw16_awake.walk _ HT4.out).mono ?_); rintro e w7 ⟨rfl, hb7⟩; have HB7 := Aside0.mk (below_step HB4.out hb7); clear hb7))
          go_ret
          exact ⟨rfl, HB7.out⟩
theorem pleachlaw16_ShelfGot.calls (A0 : Option Addr) (c0 : Nat) (l0 : List ByteArray) (r : Bool) (w : World) (hr0 : Kd.C Kd.string w A0 l0.length l0) (hc0 : l0.length ≤ c0) (hT : M.stab w) (h : pleachlaw16_ShelfGot.f l0 = some r) :
    Calls Tryd.prog 3 #[.slice A0 l0.length c0] w fun e w' => e = .returned (.bool r) ∧ Below w.heap.size w w' := by
  obtain rfl := Option.some.inj h
  by_cases hf : l0.length ≤ 40
  · by_cases hb : M.bytesN 0 l0 ≤ 4000
    · exact pleachlaw16_ShelfGot.in_ A0 c0 l0 w hr0 hc0 hT hf hb
    · exact pleachlaw16_ShelfGot.out2 A0 c0 l0 w hr0 hc0 hT hf (by omega)
  · exact pleachlaw16_ShelfGot.out1 A0 c0 l0 w hr0 hc0 hT (by omega)

/-- THE ONE PURE STATEMENT of pleachlaw16_ShelfGot: this session's form. -/
def pleachlaw16_ShelfGot.Pure : Prop := ∀ (l0 : List ByteArray), ((∀ y ∈ l0, y.size ≤ 9223372036854775807) ∧ l0.length ≤ 9223372036854775807) → pleachlaw16_ShelfGot.f l0 = some true
end Go.Proofs.YtccekjebfafgcaaDoor.EShelfGot
