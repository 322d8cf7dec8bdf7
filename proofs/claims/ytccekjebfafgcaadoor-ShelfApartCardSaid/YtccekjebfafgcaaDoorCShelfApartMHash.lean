/- A hash in memory, by its whole block. No program in sight. -/
import Derived.Test.YtccekjebfafgcaaDoorCShelfApartMArr
import Derived.Test.YtccekjebfafgcaaDoorCShelfApartMSha
namespace Go.Proofs.YtccekjebfafgcaaDoor.M
open Go.RowKit Go.Proofs.YtccekjebfafgcaaDoorW.PrintWords Go.Proofs.YtccekjebfafgcaaDoorW.PrintMore

theorem blk_set {w : World} {g t : Nat} {cs : Array Value} {fr : Nat × Nat} (h : w.heap[g]? = some (.cells cs t fr)) (i : Nat) (v : Value) : (w.setCell ⟨g, i, none⟩ v).heap[g]? = some (.cells (cs.setIfInBounds i v) t fr) := by
  have hlt := lt_of_block h
  have h' : w.heap[g] = .cells cs t fr := by simpa [Array.getElem?_eq_getElem hlt] using h
  show (w.heap.modify g _)[g]? = _
  rw [Array.getElem?_eq_getElem (by simpa using hlt), Array.getElem_modify_self, h']
  rfl
theorem blk_cell {w : World} {g t : Nat} {cs : Array Value} {fr : Nat × Nat} (h : w.heap[g]? = some (.cells cs t fr)) (i : Nat) (v : Value) (hv : cs[i]? = some v) : w.cell? ⟨g, i, none⟩ = some v := by
  simp [World.cell?, h, hv]
theorem blk_free {w : World} {g t : Nat} {cs : Array Value} (h : w.heap[g]? = some (.cells cs t (0, 0))) (i : Nat) : w.frozen? ⟨g, i, none⟩ = false := by
  simp [World.frozen?, h]
/-- Block g is a hash: the state's words, the rest, how many bytes, made. -/
def hash (w : World) (g t : Nat) (x0 x1 x2 x3 x4 x5 x6 x7 : Nat) (v : Value) (n : Int) : Prop :=
  w.heap[g]? = some (.cells #[.int .u32 (x0 : Int), .int .u32 (x1 : Int), .int .u32 (x2 : Int), .int .u32 (x3 : Int), .int .u32 (x4 : Int), .int .u32 (x5 : Int), .int .u32 (x6 : Int), .int .u32 (x7 : Int), v, .int .i64 n, .bool true] t (0, 0))
theorem lt_blk {w : World} {g t : Nat} {cs : Array Value} {fr : Nat × Nat} (h : w.heap[g]? = some (.cells cs t fr)) : g < w.heap.size := lt_of_block h
theorem hash_set8 {w : World} {g t y0 y1 y2 y3 y4 y5 y6 y7 : Nat} {v : Value} {n : Int} (h : hash w g t y0 y1 y2 y3 y4 y5 y6 y7 v n) (z0 z1 z2 z3 z4 z5 z6 z7 : Nat) : hash ((((((((w.setCell ⟨g, 0, none⟩ (.int .u32 (z0 : Int))).setCell ⟨g, 1, none⟩ (.int .u32 (z1 : Int))).setCell ⟨g, 2, none⟩ (.int .u32 (z2 : Int))).setCell ⟨g, 3, none⟩ (.int .u32 (z3 : Int))).setCell ⟨g, 4, none⟩ (.int .u32 (z4 : Int))).setCell ⟨g, 5, none⟩ (.int .u32 (z5 : Int))).setCell ⟨g, 6, none⟩ (.int .u32 (z6 : Int))).setCell ⟨g, 7, none⟩ (.int .u32 (z7 : Int))) g t z0 z1 z2 z3 z4 z5 z6 z7 v n := by
  unfold hash at h ⊢
  have h0 := blk_set h 0 (.int .u32 (z0 : Int))
  have h1 := blk_set h0 1 (.int .u32 (z1 : Int))
  have h2 := blk_set h1 2 (.int .u32 (z2 : Int))
  have h3 := blk_set h2 3 (.int .u32 (z3 : Int))
  have h4 := blk_set h3 4 (.int .u32 (z4 : Int))
  have h5 := blk_set h4 5 (.int .u32 (z5 : Int))
  have h6 := blk_set h5 6 (.int .u32 (z6 : Int))
  have h7 := blk_set h6 7 (.int .u32 (z7 : Int))
  simpa only [List.setIfInBounds_toArray, List.set_cons_zero, List.set_cons_succ] using h7
theorem keep_set8 (w : World) (g z0 z1 z2 z3 z4 z5 z6 z7 : Nat) : KeepBut w ((((((((w.setCell ⟨g, 0, none⟩ (.int .u32 (z0 : Int))).setCell ⟨g, 1, none⟩ (.int .u32 (z1 : Int))).setCell ⟨g, 2, none⟩ (.int .u32 (z2 : Int))).setCell ⟨g, 3, none⟩ (.int .u32 (z3 : Int))).setCell ⟨g, 4, none⟩ (.int .u32 (z4 : Int))).setCell ⟨g, 5, none⟩ (.int .u32 (z5 : Int))).setCell ⟨g, 6, none⟩ (.int .u32 (z6 : Int))).setCell ⟨g, 7, none⟩ (.int .u32 (z7 : Int))) g none := (KeepBut.set_ (KeepBut.set_ (KeepBut.set_ (KeepBut.set_ (KeepBut.set_ (KeepBut.set_ (KeepBut.set_ (KeepBut.set_ (KeepBut.refl w g none) 0 _) 1 _) 2 _) 3 _) 4 _) 5 _) 6 _) 7 _)
theorem below_set8 {w0 w : World} {b : Nat} (h : Below b w0 w) (g z0 z1 z2 z3 z4 z5 z6 z7 : Nat) (hb : b ≤ g) : Below b w0 ((((((((w.setCell ⟨g, 0, none⟩ (.int .u32 (z0 : Int))).setCell ⟨g, 1, none⟩ (.int .u32 (z1 : Int))).setCell ⟨g, 2, none⟩ (.int .u32 (z2 : Int))).setCell ⟨g, 3, none⟩ (.int .u32 (z3 : Int))).setCell ⟨g, 4, none⟩ (.int .u32 (z4 : Int))).setCell ⟨g, 5, none⟩ (.int .u32 (z5 : Int))).setCell ⟨g, 6, none⟩ (.int .u32 (z6 : Int))).setCell ⟨g, 7, none⟩ (.int .u32 (z7 : Int))) := (Below.setCell (Below.setCell (Below.setCell (Below.setCell (Below.setCell (Below.setCell (Below.setCell (Below.setCell h (p := ⟨g, 0, none⟩) hb _) (p := ⟨g, 1, none⟩) hb _) (p := ⟨g, 2, none⟩) hb _) (p := ⟨g, 3, none⟩) hb _) (p := ⟨g, 4, none⟩) hb _) (p := ⟨g, 5, none⟩) hb _) (p := ⟨g, 6, none⟩) hb _) (p := ⟨g, 7, none⟩) hb _)
theorem arr_set8 {w : World} {g t y0 y1 y2 y3 y4 y5 y6 y7 : Nat} (h : arr w g t .u32 (nums32 [y0, y1, y2, y3, y4, y5, y6, y7])) (z0 z1 z2 z3 z4 z5 z6 z7 : Nat) : arr ((((((((w.setCell ⟨g, 0, none⟩ (.int .u32 (z0 : Int))).setCell ⟨g, 1, none⟩ (.int .u32 (z1 : Int))).setCell ⟨g, 2, none⟩ (.int .u32 (z2 : Int))).setCell ⟨g, 3, none⟩ (.int .u32 (z3 : Int))).setCell ⟨g, 4, none⟩ (.int .u32 (z4 : Int))).setCell ⟨g, 5, none⟩ (.int .u32 (z5 : Int))).setCell ⟨g, 6, none⟩ (.int .u32 (z6 : Int))).setCell ⟨g, 7, none⟩ (.int .u32 (z7 : Int))) g t .u32 (nums32 [z0, z1, z2, z3, z4, z5, z6, z7]) := by
  have h0 := arr_set h 0 (z0 : Int)
  have h1 := arr_set h0 1 (z1 : Int)
  have h2 := arr_set h1 2 (z2 : Int)
  have h3 := arr_set h2 3 (z3 : Int)
  have h4 := arr_set h3 4 (z4 : Int)
  have h5 := arr_set h4 5 (z5 : Int)
  have h6 := arr_set h5 6 (z6 : Int)
  have h7 := arr_set h6 7 (z7 : Int)
  simpa only [nums32, List.map_cons, List.map_nil, List.set_cons_zero, List.set_cons_succ] using h7
/-- The two tables of layer 3. -/
def stab (w : World) : Prop := (∀ i : Nat, i < 8 → w.cell? ⟨0, i, none⟩ = some (.int .u32 ((shaH.getD i 0 : Nat) : Int))) ∧ ∀ i : Nat, i < 64 → w.cell? ⟨1, i, none⟩ = some (.int .u32 ((shaK.getD i 0 : Nat) : Int))
theorem stab_below {w w1 : World} {b : Nat} (h : stab w) (hb : Below b w w1) (h1 : 1 < b) : stab w1 :=
  ⟨fun i hi => by rw [← h.1 i hi]; exact hb.cell (by show 0 < b; omega), fun i hi => by rw [← h.2 i hi]; exact hb.cell (by show 1 < b; omega)⟩
theorem stab_lt {w : World} (h : stab w) : 1 < w.heap.size := World.block_lt_of_cell? w _ (h.2 0 (by decide))
/-- What is read beside block g: it stays read whatever is stored there. -/
def foot (w : World) (g : Nat) (A : Option Addr) (m : Nat) (l : List UInt8) : Prop := ∀ W', KeepBut w W' g none → ReadsInt W' .u8 A m (l.map fun x => (x.toNat : Int))
theorem foot_step {w w1 : World} {g : Nat} {A : Option Addr} {m : Nat} {l : List UInt8} (h : foot w g A m l) (hk : KeepBut w w1 g none) : foot w1 g A m l := fun W' hk' => h W' (hk.trans hk' (.inl rfl))
theorem foot_now {w : World} {g : Nat} {A : Option Addr} {m : Nat} {l : List UInt8} (h : foot w g A m l) : ReadsInt w .u8 A m (l.map fun x => (x.toNat : Int)) := h w (KeepBut.refl w g none)
/-- A state behind the first k blocks of a text. -/
def eat (s : List Nat) (l : List UInt8) : Nat → List Nat
  | 0 => s
  | k + 1 => turned (eat s l k) ((l.drop (64 * k)).take 64)
/-- How many noughts stand behind a text of n bytes and the mark. -/
def padz (n : Nat) : Nat := (119 - n % 64) % 64
theorem padz_lt (n : Nat) : padz n < 64 := Nat.mod_lt _ (by decide)
theorem padz_at (n j : Nat) (h : j ≤ padz n) : ((n + 1 + j) % 64 = 56) ↔ j = padz n := by unfold padz at *; omega
/-- A number's eight bytes, the great one first. -/
def be8 (n : Nat) : List UInt8 := [UInt8.ofNat (n / 72057594037927936), UInt8.ofNat (n / 281474976710656), UInt8.ofNat (n / 1099511627776), UInt8.ofNat (n / 4294967296), UInt8.ofNat (n / 16777216), UInt8.ofNat (n / 65536), UInt8.ofNat (n / 256), UInt8.ofNat n]
/-- What stands behind a text's whole blocks. -/
def padlast (l : List UInt8) (n : Nat) : List UInt8 := l ++ [128] ++ List.replicate (padz l.length) 0 ++ be8 (8 * n)
theorem padlast_len (l : List UInt8) (n : Nat) : (padlast l n).length % 64 = 0 := by
  have := padz_at l.length (padz l.length) (Nat.le_refl _)
  simp only [padlast, List.length_append, List.length_cons, List.length_nil, List.length_replicate, be8]
  omega
theorem padlast_le (l : List UInt8) (n : Nat) : (padlast l n).length ≤ l.length + 72 := by
  have := padz_lt l.length
  simp only [padlast, List.length_append, List.length_cons, List.length_nil, List.length_replicate, be8]
  omega
/-- The sum of a text. -/
def shaSum (t : ByteArray) : ByteArray := sb (shaText (eat (eat shaH (bs t) (t.size / 64)) (padlast ((bs t).drop (64 * (t.size / 64))) t.size) ((padlast ((bs t).drop (64 * (t.size / 64))) t.size).length / 64)))
end Go.Proofs.YtccekjebfafgcaaDoor.M
