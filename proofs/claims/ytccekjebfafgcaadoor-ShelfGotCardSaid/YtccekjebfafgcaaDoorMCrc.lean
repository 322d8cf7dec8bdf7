/- Sums of 32 bits (layer 2): by a table, four bits at a time; by definition, bit by bit. No program in sight. -/
import Derived.Test.YtccekjebfafgcaaDoorMBytes
set_option linter.unusedSimpArgs false
namespace Go.Proofs.YtccekjebfafgcaaDoor.M
open Go.RowKit Go.Proofs.YtccekjebfafgcaaDoorW.PrintWords Go.Proofs.YtccekjebfafgcaaDoorW.PrintMore

def crcT : List Nat := [0, 498536548, 997073096, 651767980, 1994146192, 1802195444, 1303535960, 1342533948, 3988292384, 4027552580, 3604390888, 3412177804, 2607071920, 2262029012, 2685067896, 3183342108]
/-- The table reads so at block g. -/
def tab (g : Nat) (w : World) : Prop := ∀ i, i < 16 → w.cell? ⟨g, i, none⟩ = some (.int .u32 ((crcT.getD i 0 : Nat) : Int))
theorem tab_up {g : Nat} {w W : World} (h : Aside0 (tab g w)) (hb : Below w.heap.size w W) : tab g W := fun i hi => pw_cell_below hb (h.out i hi)
def cstep (x : Nat) : Nat := x / 16 ^^^ crcT.getD (x % 16) 0
def cbyte (x : Nat) (c : UInt8) : Nat := cstep (cstep (x ^^^ c.toNat))
def crun (x : Nat) (l : List UInt8) : Nat := l.foldl cbyte x
def con (n : Nat) (l : List UInt8) : Nat := 4294967295 - crun (4294967295 - n) l
theorem crcT_lt (i : Nat) : crcT.getD i 0 < 4294967296 := by
  by_cases h : i < 16
  · have key : ∀ j : Fin 16, crcT.getD j.val 0 < 4294967296 := by decide
    exact key ⟨i, h⟩
  · rw [List.getD_eq_getElem?_getD, List.getElem?_eq_none (by show 16 ≤ i; omega)]; decide
theorem xor_lt {a b : Nat} (ha : a < 4294967296) (hb : b < 4294967296) : a ^^^ b < 4294967296 := Nat.xor_lt_two_pow (n := 32) ha hb
theorem cstep_lt {x : Nat} (h : x < 4294967296) : cstep x < 4294967296 := xor_lt (by omega) (crcT_lt _)
theorem cbyte_lt {x : Nat} {c : UInt8} (h : x < 4294967296) : cbyte x c < 4294967296 := cstep_lt (cstep_lt (xor_lt h (by have := c.toNat_lt; omega)))
theorem crun_lt (l : List UInt8) : ∀ {x : Nat}, x < 4294967296 → crun x l < 4294967296 := by
  induction l with
  | nil => intro x h; exact h
  | cons c l ih => intro x h; exact ih (cbyte_lt h)
theorem u32_wrap (n : Int) : IntKind.u32.wrap n = n % 4294967296 := by simp [IntKind.wrap, IntKind.bits, IntKind.signed]
theorem xor32 {a b : Nat} (ha : a < 4294967296) (hb : b < 4294967296) : Go.bits .xor .u32 (a : Int) (b : Int) = ((a ^^^ b : Nat) : Int) := by
  have e : Go.bits .xor .u32 (a : Int) (b : Int) = IntKind.u32.wrap ((BitVec.ofInt 32 (a : Int) ^^^ BitVec.ofInt 32 (b : Int)).toNat : Int) := rfl
  have f : ∀ n : Nat, n < 4294967296 → (BitVec.ofInt 32 (n : Int)).toNat = n := fun n hn => by
    rw [BitVec.toNat_ofInt]; omega
  have := xor_lt ha hb
  rw [e, BitVec.toNat_xor, f a ha, f b hb, u32_wrap]; omega
theorem not32 {n : Nat} (h : n < 4294967296) : Go.bits .xor .u32 IntKind.u32.max (n : Int) = ((4294967295 - n : Nat) : Int) := by
  have e : Go.bits .xor .u32 IntKind.u32.max (n : Int) = IntKind.u32.wrap ((BitVec.ofInt 32 IntKind.u32.max ^^^ BitVec.ofInt 32 (n : Int)).toNat : Int) := rfl
  have f : BitVec.ofInt 32 IntKind.u32.max = BitVec.allOnes 32 := by decide
  have g : (BitVec.ofInt 32 (n : Int)).toNat = n := by rw [BitVec.toNat_ofInt]; omega
  rw [e, f, BitVec.allOnes_xor, BitVec.toNat_not, g, u32_wrap]; omega
theorem and15 {y : Nat} (h : y < 4294967296) : Go.bits .and .u32 (y : Int) 15 = ((y % 16 : Nat) : Int) := by
  have := Go.bits_mask .u32 32 (by decide) (fun n h0 h1 => by rw [u32_wrap]; omega) 4 (by decide) (y : Int) (by omega) (by omega)
  simpa using this

theorem xor_mod2 (a b : Nat) : (a ^^^ b) % 2 = (a + b) % 2 := by
  have h := @Nat.xor_mod_two_eq_one a b
  by_cases ha : a % 2 = 1 <;> by_cases hb : b % 2 = 1 <;> simp only [ha, hb, iff_true, iff_false, not_true_eq_false, not_false_eq_true, true_iff, false_iff] at h <;> omega
/-- One bit. -/
def cf (x : Nat) : Nat := x / 2 ^^^ (if x % 2 = 1 then 3988292384 else 0)
theorem two_parts {n a q : Nat} (h1 : n / 2 = q) (h2 : n % 2 = a) : n = 2 * q + a := by omega
theorem xor_low {a q : Nat} (h : a < 2) : a ^^^ 2 * q = 2 * q + a := by
  apply two_parts
  · rw [Nat.xor_div_two, show a / 2 = 0 from by omega, show 2 * q / 2 = q from by omega, Nat.zero_xor]
  · rw [xor_mod2]; omega
theorem cf_lin (x y : Nat) : cf (x ^^^ 2 * y) = cf x ^^^ y := by
  unfold cf
  rw [Nat.xor_div_two, xor_mod2, show 2 * y / 2 = y from by omega, show (x + 2 * y) % 2 = x % 2 from by omega, Nat.xor_assoc, Nat.xor_assoc, Nat.xor_comm y]
def cfs : Nat → Nat → Nat
  | 0, x => x
  | m + 1, x => cfs m (cf x)
theorem cfs_lin (m : Nat) : ∀ (x y : Nat), cfs m (x ^^^ 2 ^ m * y) = cfs m x ^^^ y := by
  induction m with
  | zero => intro x y; simp [cfs]
  | succ m ih =>
    intro x y
    rw [cfs, show 2 ^ (m + 1) * y = 2 * (2 ^ m * y) from by rw [Nat.pow_succ, Nat.mul_comm (2 ^ m) 2, Nat.mul_assoc], cf_lin, ih]; rfl
theorem xor_split (m : Nat) : ∀ (x : Nat), x % 2 ^ m ^^^ 2 ^ m * (x / 2 ^ m) = x := by
  induction m with
  | zero => intro x; simp [Nat.mod_one]
  | succ m ih =>
    intro x
    have h1 := ih (x / 2)
    have e1 : x % 2 ^ (m + 1) = 2 * (x / 2 % 2 ^ m) + x % 2 := by
      rw [Nat.pow_succ, Nat.mul_comm, Nat.mod_mul]; omega
    have e2 : x / 2 ^ (m + 1) = x / 2 / 2 ^ m := by rw [Nat.pow_succ, Nat.mul_comm, Nat.div_div_eq_div_mul]
    have e3 : 2 ^ (m + 1) * (x / 2 / 2 ^ m) = 2 * (2 ^ m * (x / 2 / 2 ^ m)) := by rw [Nat.pow_succ, Nat.mul_comm (2 ^ m) 2, Nat.mul_assoc]
    rw [e1, e2, e3]
    generalize x / 2 % 2 ^ m = a at h1 ⊢
    generalize 2 ^ m * (x / 2 / 2 ^ m) = b at h1 ⊢
    rw [two_parts (n := (2 * a + x % 2) ^^^ 2 * b) (a := x % 2) (q := x / 2)]
    · omega
    · rw [Nat.xor_div_two, show (2 * a + x % 2) / 2 = a from by omega, show 2 * b / 2 = b from by omega]; exact h1
    · rw [xor_mod2]; omega
theorem cstep_cf (x : Nat) : cstep x = cfs 4 x := by
  have key : ∀ j : Fin 16, crcT.getD j.val 0 = cfs 4 j.val := by decide
  have h := xor_split 4 x
  have h2 := cfs_lin 4 (x % 2 ^ 4) (x / 2 ^ 4)
  rw [h] at h2
  rw [h2]
  unfold cstep
  have := key ⟨x % 16, Nat.mod_lt _ (by decide)⟩
  simp only at this
  rw [this, Nat.xor_comm]
/-- The bits of a byte, the lowest one first. -/
def cbits : Nat → Nat → List Nat
  | 0, _ => []
  | m + 1, c => c % 2 :: cbits m (c / 2)
def cbit (r b : Nat) : Nat := if r % 2 = b then r / 2 else r / 2 ^^^ 3988292384
theorem cbit_cf {r b : Nat} (hb : b < 2) : cbit r b = cf (r ^^^ b) := by
  unfold cbit cf
  rw [Nat.xor_div_two, xor_mod2, show b / 2 = 0 from by omega, Nat.xor_zero]
  by_cases h : r % 2 = b
  · rw [if_pos h, if_neg (by omega), Nat.xor_zero]
  · rw [if_neg h, if_pos (by omega)]
theorem cbits_run (m : Nat) : ∀ (r c : Nat), (cbits m c).foldl cbit r = cfs m (r ^^^ c % 2 ^ m) := by
  induction m with
  | zero => intro r c; simp [cbits, cfs, Nat.mod_one]
  | succ m ih =>
    intro r c
    have e : c % 2 ^ (m + 1) = c % 2 ^^^ 2 * (c / 2 % 2 ^ m) := by
      rw [xor_low (by omega), Nat.pow_succ, Nat.mul_comm (2 ^ m) 2, Nat.mod_mul]; omega
    rw [cbits, List.foldl_cons, ih, cbit_cf (by omega), cfs, e, ← Nat.xor_assoc, cf_lin]
theorem cfs_add (a : Nat) : ∀ (b x : Nat), cfs (a + b) x = cfs b (cfs a x) := by
  induction a with
  | zero => intro b x; rw [Nat.zero_add]; rfl
  | succ a ih => intro b x; rw [show a + 1 + b = (a + b) + 1 from by omega, cfs, ih]; rfl
theorem cbyte_bits (x : Nat) (c : UInt8) : (cbits 8 c.toNat).foldl cbit x = cbyte x c := by
  rw [cbits_run, Nat.mod_eq_of_lt (by have := c.toNat_lt; omega : c.toNat < 2 ^ 8), cfs_add 4 4]
  unfold cbyte
  rw [cstep_cf, cstep_cf]
/-- All bits of bytes. -/
def cbitsL (l : List UInt8) : List Nat := l.flatMap fun c => cbits 8 c.toNat
theorem crun_bits (l : List UInt8) : ∀ x : Nat, (cbitsL l).foldl cbit x = crun x l := by
  induction l with
  | nil => intro x; rfl
  | cons c l ih => intro x; unfold cbitsL at ih ⊢; rw [List.flatMap_cons, List.foldl_append, cbyte_bits, ih]; rfl
/-- A sum's bytes, the lowest one first. -/
def ctail (n : Nat) : List UInt8 := [UInt8.ofNat (n % 256), UInt8.ofNat (n / 256 % 256), UInt8.ofNat (n / 65536 % 256), UInt8.ofNat (n / 16777216 % 256)]
def cseal (l : List UInt8) : List UInt8 := l ++ ctail (con 0 l)
def copen (s : ByteArray) : ByteArray × Bool := if s.size < 4 then (sb [], false) else if ctail (con 0 ((bs s).take (s.size - 4))) = (bs s).drop (s.size - 4) then (s.extract 0 (s.size - 4), true) else (sb [], false)
theorem con_lt {n : Nat} (l : List UInt8) : con n l < 4294967296 := by unfold con; omega
theorem copen_seal (l : List UInt8) : copen (sb (cseal l)) = (sb l, true) := by
  have hl : (ctail (con 0 l)).length = 4 := rfl
  have hz : (sb (cseal l)).size = l.length + 4 := by rw [size_sb, cseal, List.length_append, hl]
  unfold copen
  rw [if_neg (by omega), hz, bs_sb, Nat.add_sub_cancel, cseal, List.take_left' rfl, List.drop_left' rfl, if_pos rfl]
  congr 1
  apply bs_inj
  rw [bs_take, bs_sb, List.take_left' rfl, bs_sb]
end Go.Proofs.YtccekjebfafgcaaDoor.M
