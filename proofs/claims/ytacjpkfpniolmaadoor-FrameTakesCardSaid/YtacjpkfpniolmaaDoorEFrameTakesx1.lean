-- Written by this session's own program (wip/tools/ext.py) for this claim; Lean checks it.
import Derived.Test.YtacjpkfpniolmaaDoorEFrameTakesx0
namespace Go.Proofs.YtacjpkfpniolmaaDoor.EFrameTakes
open Go.RowKit Go.Proofs.YtacjpkfpniolmaaDoorW.PrintWords Go.Proofs.YtacjpkfpniolmaaDoorW.PrintLast Go.Proofs.YtacjpkfpniolmaaDoorW.PrintMore
attribute [local go_sem] M.run_leq M.run_gtr M.run_geq max2_int min2_int max_two min_two max_three min_three max_four min_four   -- for this text's walks alone
set_option linter.unusedVariables false
set_option linter.unusedSimpArgs false

/-! ### frame_Check_p: function 13 -/
def frame_Check_p.f (a0 : ByteArray) : Option (Int) := if a0.toList = ([] : List UInt8) then (some 2) else (if (a0.size : Int) > 65536 then (some 5) else (some 0))
set_option maxHeartbeats 8000000 in
set_option maxRecDepth 100000 in
theorem frame_Check_p.calls (a0 : ByteArray) (r : Int) (w : World) (h : frame_Check_p.f a0 = some r) :
    Calls Tryd.prog 13 #[.string a0] w fun e w' => e = .returned (.int .i64 r) ∧ Drawn0 w w' := by
  have H : (if a0.toList = ([] : List UInt8) then (some 2) else (if (a0.size : Int) > 65536 then (some 5) else (some 0))) = some r := h
  clear h
  by_cases c2 : a0.toList = ([] : List UInt8)
  · rw [if_pos c2] at H
    have c2b0 : (a0.toList == ([] : List UInt8)) = true := beq_iff_eq.mpr c2
    have c2b1 : (a0.toList != ([] : List UInt8)) = false := bne_eq_false_iff_eq.mpr c2
    clear c2
    obtain rfl := Option.some.inj H
    go_enter Tryd.func13, Tryd.ntmps13
    go_wp2
    go_ret
    exact ⟨by first | rfl | (simp; done) | (simp [*]; done), by repeat (first | exact Drawn0.refl _ | apply Drawn0.step)⟩
  · rw [if_neg c2] at H
    have c2b0 : (a0.toList == ([] : List UInt8)) = false := beq_eq_false_iff_ne.mpr c2
    have c2b1 : (a0.toList != ([] : List UInt8)) = true := bne_iff_ne.mpr c2
    by_cases c3 : (a0.size : Int) > 65536
    · rw [if_pos c3] at H
      have c3b0 : decide (65536 < (a0.size : Int)) = true := decide_eq_true c3
      have c3b1 : decide (65536 < a0.size) = true := decide_eq_true (by omega)
      clear c3
      obtain rfl := Option.some.inj H
      go_enter Tryd.func13, Tryd.ntmps13
      go_wp2
      go_ret
      exact ⟨by first | rfl | (simp; done) | (simp [*]; done), by repeat (first | exact Drawn0.refl _ | apply Drawn0.step)⟩
    · rw [if_neg c3] at H
      have c3b0 : decide (65536 < (a0.size : Int)) = false := decide_eq_false c3
      have c3b1 : decide (65536 < a0.size) = false := decide_eq_false (by omega)
      clear c3
      obtain rfl := Option.some.inj H
      go_enter Tryd.func13, Tryd.ntmps13
      go_wp2
      go_ret
      exact ⟨by first | rfl | (simp; done) | (simp [*]; done), by repeat (first | exact Drawn0.refl _ | apply Drawn0.step)⟩

-- this session's own plain form
def frame_Check.f (a0 : ByteArray) : Option Int := some (M.fwrong a0)
theorem frame_Check.ev (a0 : ByteArray) (r : Int) (h : frame_Check.f a0 = some r) : frame_Check_p.f a0 = some r := by
  rw [← h]
  unfold frame_Check_p.f frame_Check.f M.fwrong
  by_cases h0 : a0.size = 0
  · rw [if_pos ((M.nil_iff a0).2 h0), if_pos h0]
  · rw [if_neg (fun z => h0 ((M.nil_iff a0).1 z)), if_neg h0]
    by_cases h1 : 65536 < a0.size
    · rw [if_pos (by omega), if_pos h1]
    · rw [if_neg (by omega), if_neg h1]
theorem frame_Check.calls (a0 : ByteArray) (r : Int) (w : World) (h : frame_Check.f a0 = some r) :
    Calls Tryd.prog 13 #[.string a0] w fun e w' => e = .returned (.int .i64 r) ∧ Drawn0 w w' := by
  exact frame_Check_p.calls (w := w) (h := frame_Check.ev _ _ h)

/-! ### varint_Put: function 39 -/
def varint_Put.f (a0 : Int) : Option ByteArray := if 0 ≤ a0 ∧ a0 < 18446744073709551616 then some (M.sb (M.vb a0.toNat)) else none

def varint_Put.inv (W w : World) (a0 : Nat) (m k : Nat) (pre : List Int) : Prop :=
  k ≤ 9 ∧ pre.length = k ∧ m < 2 * 128 ^ (9 - k) ∧ pre ++ M.vput m = M.vput a0 ∧
  W.ownsRow w.heap.size 75 1 (.slice (some ⟨w.heap.size, 0, none⟩) 10 10) 10 (nums .u8 (pre ++ List.replicate (10 - k) 0)) ∧ Below w.heap.size w W

theorem varint_Put.slice_ (b k : Nat) (hk : k ≤ 9) (W : World) :
    (Instr.sliceAt 75 (.pointer (some ⟨b, 0, none⟩)) none (some (.int .i64 ((k : Int) + 1))) none).run Tryd.prog W = .ok (.slice (some ⟨b, 0, none⟩) (k + 1) 10) W := by
  have ha : Tryd.prog.arrayLen 75 = 10 := by kernel_rfl
  rw [run_sliceAt_array_h W 75 _ (by kernel_rfl) .i64 _ (by omega) (by rw [ha]; omega), ha]
  have hs : (sizeOf (Tryd.prog.elem 75)).run Tryd.prog W = .ok 1 W := by kernel_rfl
  rw [hs]
  simp [Result.andThen, slicedAt, add_plain]

set_option maxHeartbeats 1000000 in
theorem varint_Put.nat (a0 : Nat) (w : World) (h1 : a0 < 18446744073709551616) :
    Calls Tryd.prog 39 #[.int .u64 a0] w fun e w' => e = .returned (.string (strOfNums (M.vput a0))) ∧ Below w.heap.size w w' := by
  go_enter Tryd.func39, Tryd.ntmps39
  go_wp2
  go_loopw [0, 4] (fun n i wr => ∃ (m k : Nat) (pre : List Int), n = .int .u64 m ∧ i = .int .i64 k ∧ varint_Put.inv wr w a0 m k pre) (fun n _ _ => (intOf n).toNat)
  case atStart =>
    refine ⟨a0, 0, [], rfl, rfl, Nat.zero_le _, rfl, by simpa using h1, rfl, ?_, below_alloc (Below.refl _ _) _⟩
    exact World.ownsRow_lit (base := w.heap.size) (e := 75) (size := 1) w #[Value.int IntKind.u8 0, Value.int IntKind.u8 0, Value.int IntKind.u8 0, Value.int IntKind.u8 0, Value.int IntKind.u8 0, Value.int IntKind.u8 0, Value.int IntKind.u8 0, Value.int IntKind.u8 0, Value.int IntKind.u8 0, Value.int IntKind.u8 0] 10 (Nat.le_refl _) (by decide) rfl
  case round =>
    obtain ⟨m, k, pre, rfl, rfl, hk, hl, hm, he, ho, hb⟩ := hrel
    obtain ⟨hc, hf⟩ := own_at ho (k : Int) (by omega) (by omega)
    have hm64 := M.put_m64 hm
    by_cases hlt : m < 128
    · have ht : decide ((m : Int) ≥ 128) = false := by simp; omega
      have hs := own_store ho (k : Int) ((m : Nat) : Int)
      rw [M.put_set pre k _ hk hl] at hs
      have ht2 := own_take (m := k + 1) hs.1 (by omega)
      have hconv := own_string (P := Tryd.prog) (src := 66) (dst := 9) (e := 5) (xs := (pre ++ [(m : Int)])) (by kernel_rfl) (by kernel_rfl) (by kernel_rfl) (by
        have e : List.take ((k + 1) * 1) (nums .u8 (pre ++ [(m : Int)] ++ List.replicate (10 - (k + 1)) 0)) = nums .u8 (pre ++ [(m : Int)]) := by
          rw [nums_append, Nat.mul_one, List.take_left' (by simp [nums, hl])]
        rw [e] at ht2; exact ht2)
      rw [← M.vput_low hlt, he] at hconv
      have hb' : Below w.heap.size w (wr.setCell ⟨w.heap.size, (k : Int).toNat, none⟩ (.int .u8 m)) := pw_below_grown hb _ hb.size hs.2 (fun q hq => by cases hq; exact Nat.le_refl _)
      have hsl := fun W => varint_Put.slice_ w.heap.size k hk W
      rw [Int.toNat_natCast] at hc hf hconv hb'
      clear ht2 hl he hs ho hm
      go_wp2
      go_ret
      exact ⟨rfl, hb'⟩
    · have ht : decide ((m : Int) ≥ 128) = true := by simp; omega
      obtain ⟨hk8, hm8⟩ := M.put_bound hk hm hlt
      have hs := own_store ho (k : Int) ((m % 128 + 128 : Nat) : Int)
      rw [M.put_set pre k _ hk hl] at hs
      have hb' : Below w.heap.size w (wr.setCell ⟨w.heap.size, (k : Int).toNat, none⟩ (.int .u8 ((m % 128 + 128 : Nat) : Int))) := pw_below_grown hb _ hb.size hs.2 (fun q hq => by cases hq; exact Nat.le_refl _)
      rw [Int.toNat_natCast] at hc hf hb' hs
      have HH : varint_Put.inv (wr.setCell ⟨w.heap.size, k, none⟩ (.int .u8 ((m % 128 + 128 : Nat) : Int))) w a0 (m / 128) (k + 1) (pre ++ [((m % 128 + 128 : Nat) : Int)]) :=
        ⟨hk8, by simp [hl], hm8, by rw [← he, M.vput_high hlt]; simp, hs.1, hb'⟩
      clear hs hb' hl he ho hm hm8
      have H := Aside0.mk HH
      clear HH
      have hor := M.or128 m
      go_wp2
      go_roundw
      case rel => exact ⟨m / 128, k + 1, _, by go_num, by go_num, H.out⟩
      case measure => simp [intOf]; omega

theorem varint_Put.calls (a0 : Int) (r : ByteArray) (w : World) (h : varint_Put.f a0 = some r) :
    Calls Tryd.prog 39 #[.int .u64 a0] w fun e w' => e = .returned (.string r) ∧ Below w.heap.size w w' := by
  unfold varint_Put.f at h
  split at h
  · rename_i hh
    obtain ⟨n, rfl⟩ := Int.eq_ofNat_of_zero_le hh.1
    obtain rfl := Option.some.inj h
    have := varint_Put.nat n w (by omega)
    rw [M.vput_vb] at this
    exact this
  · cases h

/-! ### scan_PutText: function 29 -/
def scan_PutText.f (a0 : ByteArray) : Option ByteArray := if a0.size ≤ 9223372036854775797 then some (M.sb (M.vb a0.size) ++ a0) else none
theorem scan_PutText.go (a0 p : ByteArray) (w : World) (h0 : a0.size ≤ 9223372036854775797) (hp : varint_Put.f (a0.size : Int) = some p) (hs : p.size + a0.size ≤ 9223372036854775807) :
    Calls Tryd.prog 29 #[.string a0] w fun e w' => e = .returned (.string (p ++ a0)) ∧ Below w.heap.size w w' := by
  have HP := Aside0.mk hp
  clear hp
  have c3b0 := eq_true hs
  have c3b1 : decide (p.size + a0.size ≤ 9223372036854775807) = true := decide_eq_true hs
  have c3b2 : (9223372036854775807 < p.size + a0.size) = False := eq_false (Nat.not_lt.2 hs)
  go_enter Tryd.func29, Tryd.ntmps29
  go_wp2_with (go_at_call 39; refine (varint_Put.calls (a0.size : Int) p _ HP.out).mono ?_; rintro e w1 ⟨rfl, hb⟩)
  go_ret
  exact ⟨rfl, hb⟩
theorem scan_PutText.calls (a0 : ByteArray) (r : ByteArray) (w : World) (h : scan_PutText.f a0 = some r) :
    Calls Tryd.prog 29 #[.string a0] w fun e w' => e = .returned (.string r) ∧ Below w.heap.size w w' := by
  unfold scan_PutText.f at h
  split at h
  · rename_i hh
    obtain rfl := Option.some.inj h
    have hl := M.vb_le a0.size (by omega)
    refine scan_PutText.go a0 _ w hh ?_ (by rw [M.size_sb]; omega)
    unfold varint_Put.f
    rw [if_pos ⟨by omega, by omega⟩, Int.toNat_natCast]
  · cases h

/-! ### crc_tail: function 40 -/
def crc_tail.f (a0 : Int) : Option (ByteArray) := some (strOfNums (([(a0) % 256, (a0 / 256) % 256, (a0 / 65536) % 256, (a0 / 16777216) % 256] : List Int)))
set_option maxHeartbeats 8000000 in
set_option maxRecDepth 100000 in
theorem crc_tail.calls (a0 : Int) (r : ByteArray) (w : World) (h : crc_tail.f a0 = some r) :
    Calls Tryd.prog 40 #[.int .u32 a0] w fun e w' => e = .returned (.string r) ∧ Below w.heap.size w w' := by
  have HB := Aside0.mk (Below.refl w.heap.size w)
  have H : (some (strOfNums (([(a0) % 256, (a0 / 256) % 256, (a0 / 65536) % 256, (a0 / 16777216) % 256] : List Int)))) = some r := h
  clear h
  obtain ⟨y101, hy101⟩ : ∃ y_ : List Int, y_ = (([(a0) % 256, (a0 / 256) % 256, (a0 / 65536) % 256, (a0 / 16777216) % 256] : List Int)) := ⟨_, rfl⟩
  replace H : (some (strOfNums y101)) = some r := by first | (rw [hy101]; with_reducible exact H) | (have H2_ := (Option.bind_some _ _).symm.trans H; rw [hy101]; with_reducible exact H2_) | (have H2_ := (Option.bind_some _ _).symm.trans H; with_reducible exact H2_) | with_reducible exact H | (rw [hy101]; exact H) | exact H
  have Ny101 := Aside0.mk hy101
  clear hy101
  obtain rfl := Option.some.inj H
  go_enter Tryd.func40, Tryd.ntmps40
  go_wp2_with (first | ((with_reducible refine gate_dst (N := 14) rfl ?_); refine Kd.R_lit (Kd.int .u8) _ 5 ?hg (N := 14) ?hd (xs := ([(a0) % 256, (a0 / 256) % 256, (a0 / 65536) % 256, (a0 / 16777216) % 256] : List Int)) (inner := [.int .u8 ((a0) % 256), .int .u8 ((a0 / 256) % 256), .int .u8 ((a0 / 65536) % 256), .int .u8 ((a0 / 16777216) % 256)]) (ok := fun _ => True) (okp := fun _ => True) ?hr ?hp (fun _ hk => hk) trivial (Below.refl _ _) (Nat.le_refl _) (by simp) ?_; (case hd => rfl); (case hg => rfl); (case hr => first | (go_simp; done) | (go_simp; rfl)); (case hp => exact (Reps.one (show Kd.M (Kd.int .u8) _ _ _ ((a0) % 256) [.int .u8 ((a0) % 256)] from rfl) (Reps.one (show Kd.M (Kd.int .u8) _ _ _ ((a0 / 256) % 256) [.int .u8 ((a0 / 256) % 256)] from rfl) (Reps.one (show Kd.M (Kd.int .u8) _ _ _ ((a0 / 65536) % 256) [.int .u8 ((a0 / 65536) % 256)] from rfl) (Reps.one (show Kd.M (Kd.int .u8) _ _ _ ((a0 / 16777216) % 256) [.int .u8 ((a0 / 16777216) % 256)] from rfl) (Reps.none _ _)))))); intro v102 w2 ho3 hb hg_ hnew_; clear hg_ hnew_; (first | rw [← Ny101.out] at ho3 | (simp only [Int.reduceToNat] at ho3; rw [← Ny101.out] at ho3)); have n0_ := Aside0.mk (Kd.R_lower ho3 (below_size (M.up HB))); have n1_ := M.upS HB hb; clear HB; have HO103 := n0_; have HB := n1_; clear n0_ n1_; clear hb ho3; have hcv4 := own_string (P := Tryd.prog) Tryd.underlying66 Tryd.underlying5 Tryd.underlying9 (Kd.own_of_R HO103.out)))
  go_ret
  exact M.fin (M.up HB)

/-! ### crc_On: function 48 -/
def crc_On.f (a0 : Int) (a1 : ByteArray) : Option Int := if 0 ≤ a0 ∧ a0 < 4294967296 ∧ a1.size ≤ 9223372036854775806 then some ((M.con a0.toNat (M.bs a1) : Nat) : Int) else none
set_option maxHeartbeats 1000000 in
theorem crc_On.nat (n : Nat) (s : ByteArray) (w : World) (hT : M.tab 0 w) (hn : n < 4294967296) (hs : s.size ≤ 9223372036854775806) :
    Calls Tryd.prog 48 #[.int .u32 n, .string s] w fun e w' => e = .returned (.int .u32 ((M.con n (M.bs s) : Nat) : Int)) ∧ w = w' := by
  have hno := M.not32 hn
  go_enter Tryd.func48, Tryd.ntmps48
  go_wp2
  go_loop [0, 10] (fun v i => ∃ (x k : Nat), v = .int .u32 x ∧ i = .int .i64 k ∧ k ≤ s.size ∧ x < 4294967296 ∧ x = M.crun (4294967295 - n) ((M.bs s).take k)) (fun _ i => s.size - (intOf i).toNat)
  case atStart => exact ⟨_, 0, rfl, rfl, Nat.zero_le _, by omega, rfl⟩
  case round =>
    obtain ⟨x, k, rfl, rfl, hk, hx, hr⟩ := hrel
    have HR := Aside0.mk hr
    clear hr hno
    by_cases hlt : k < s.size
    · obtain ⟨c, hc⟩ : ∃ c : Nat, (s[k].toNat) = c := ⟨_, rfl⟩
      have hc8 : c < 256 := by rw [← hc]; exact s[k].toNat_lt
      have hy := M.xor32 (b := c) hx (by omega)
      have hyl := M.xor_lt (b := c) hx (by omega)
      have HN : Aside0 (M.crun (4294967295 - n) ((M.bs s).take (k + 1)) = M.cstep (M.cstep (x ^^^ c))) := by
        constructor
        have hl : k < (M.bs s).length := by rw [M.bs_length]; exact hlt
        have e : ((M.bs s)[k]'hl).toNat = c := hc
        rw [List.take_succ_eq_append_getElem hl, M.crun, List.foldl_append]
        show M.cbyte (M.crun (4294967295 - n) ((M.bs s).take k)) ((M.bs s)[k]'hl) = _
        rw [← HR.out]
        unfold M.cbyte
        rw [e]
      generalize x ^^^ c = y at hy hyl HN
      have hm := M.and15 hyl
      have h1 := hT (y % 16) (Nat.mod_lt _ (by decide))
      have hm2 : y % 16 < 16 := Nat.mod_lt _ (by decide)
      have ht1 := M.crcT_lt (y % 16)
      obtain ⟨tv, htv⟩ : ∃ tv, tv = M.crcT.getD (y % 16) 0 := ⟨_, rfl⟩
      rw [← htv] at h1 ht1
      have hz := M.xor32 (a := y / 16) (b := tv) (by omega) ht1
      have hzl := M.xor_lt (a := y / 16) (b := tv) (by omega) ht1
      have hz1 : y / 16 ^^^ tv = M.cstep y := by rw [htv]; rfl
      rw [hz1] at hz hzl
      rw [show ((y / 16 : Nat) : Int) = (y : Int) / 16 from by omega] at hz
      clear hz1 htv
      generalize M.cstep y = z at hz hzl HN
      have hm' := M.and15 hzl
      have h2 := hT (z % 16) (Nat.mod_lt _ (by decide))
      have hm2' : z % 16 < 16 := Nat.mod_lt _ (by decide)
      have ht2 := M.crcT_lt (z % 16)
      obtain ⟨tu, htu⟩ : ∃ tu, tu = M.crcT.getD (z % 16) 0 := ⟨_, rfl⟩
      rw [← htu] at h2 ht2
      have hu := M.xor32 (a := z / 16) (b := tu) (by omega) ht2
      have hul := M.xor_lt (a := z / 16) (b := tu) (by omega) ht2
      have hu1 : z / 16 ^^^ tu = M.cstep z := by rw [htu]; rfl
      rw [hu1] at hu hul
      rw [show ((z / 16 : Nat) : Int) = (z : Int) / 16 from by omega] at hu
      clear hu1 htu hT
      generalize M.cstep z = u at hu hul HN
      go_wp2
      go_round
      case rel => exact ⟨u, k + 1, rfl, by go_num, by omega, hul, HN.out.symm⟩
      case measure => simp [intOf]; omega
    · have hno := M.not32 hx
      have hk2 : k = s.size := by omega
      have HE : Aside0 (M.con n (M.bs s) = 4294967295 - x) := by
        constructor
        have := HR.out
        rw [List.take_of_length_le (by rw [M.bs_length]; omega)] at this
        unfold M.con
        rw [← this]
      clear hT hk2
      go_wp2
      go_ret
      rw [HE.out]
      exact ⟨rfl, rfl⟩
theorem crc_On.calls (a0 : Int) (a1 : ByteArray) (r : Int) (w : World) (h : crc_On.f a0 a1 = some r) (hT : M.tab 0 w) :
    Calls Tryd.prog 48 #[.int .u32 a0, .string a1] w fun e w' => e = .returned (.int .u32 r) ∧ Below w.heap.size w w' := by
  unfold crc_On.f at h
  split at h
  · rename_i hh
    obtain ⟨n, rfl⟩ := Int.eq_ofNat_of_zero_le hh.1
    obtain rfl := Option.some.inj h
    refine (crc_On.nat n a1 w hT (by omega) hh.2.2).mono ?_
    rintro e w' ⟨rfl, rfl⟩
    exact ⟨by rw [Int.toNat_natCast], Below.refl _ _⟩
  · cases h

/-! ### crc_Of_p: function 41 -/
def crc_Of_p.l0 : Nat → Int → List ByteArray → Int → Int → Option (Int)
  | 0, _, _, _, _ => none
  | k + 1, x3, x6, x7, x8 => if x8 < x7 then (if 0 ≤ x8 then (if x8 < (x6.length : Int) then ((crc_On.f x3 (rdOf ByteArray.empty x6 x8)).bind fun t105 => (crc_Of_p.l0 k t105 x6 x7 (wrap64 (x8 + 1)))) else (none)) else (none)) else (some x3)
def crc_Of_p.f (k : Nat) (l0 : List ByteArray) : Option (Int) := crc_Of_p.l0 k 0 l0 (l0.length : Int) 0
theorem crc_Of_p.mono_l : ∀ k, (∀ y0 y1 y2 y3, LeO (crc_Of_p.l0 k y0 y1 y2 y3) (crc_Of_p.l0 (k + 1) y0 y1 y2 y3))
  | 0 => fun _ _ _ _ r h => by simp [crc_Of_p.l0] at h
  | k + 1 => by
    have ih0 := crc_Of_p.mono_l k
    · intro y0 y1 y2 y3
      unfold crc_Of_p.l0
      repeat' first
      | (with_reducible exact ih0 _ _ _ _)
      | (with_reducible exact LeO.refl _)
      | (with_reducible exact LeO.none _)
      | (with_reducible refine LeO.ite ?_ ?_)
      | (with_reducible refine LeO.bind ?_ (fun _ => ?_))
      | exact ih0 _ _ _ _
      | exact LeO.none _
      | refine LeO.ite ?_ ?_
      | refine LeO.bind ?_ (fun _ => ?_)
theorem crc_Of_p.mono : ∀ a0 k, LeO (crc_Of_p.f k a0) (crc_Of_p.f (k + 1) a0) := by
  intro a0 k
  have ih0 := crc_Of_p.mono_l k
  unfold crc_Of_p.f
  repeat' first
      | (with_reducible exact ih0 _ _ _ _)
      | (with_reducible exact LeO.refl _)
      | (with_reducible exact LeO.none _)
      | (with_reducible refine LeO.ite ?_ ?_)
      | (with_reducible refine LeO.bind ?_ (fun _ => ?_))
      | exact ih0 _ _ _ _
      | exact LeO.none _
      | refine LeO.ite ?_ ?_
      | refine LeO.bind ?_ (fun _ => ?_)
set_option maxHeartbeats 8000000 in
set_option maxRecDepth 100000 in
theorem crc_Of_p.calls (k : Nat) (A0 : Option Addr) (c0 : Nat) (l0 : List ByteArray) (r : Int) (w : World) (hr0 : Kd.C Kd.string w A0 l0.length l0) (hc0 : l0.length ≤ c0) (h : crc_Of_p.f k l0 = some r) (hT : M.tab 0 w) :
    Calls Tryd.prog 41 #[.slice A0 l0.length c0] w fun e w' => e = .returned (.int .u32 r) ∧ Below w.heap.size w w' := by
  have HT := Aside0.mk hT
  clear hT
  have HR0 := Aside0.mk hr0
  have HC0 := Aside0.mk hc0
  clear hr0 hc0
  have HB := Aside0.mk (Below.refl w.heap.size w)
  have H : (crc_Of_p.l0 k 0 l0 (l0.length : Int) 0) = some r := h
  clear h
  have H' := Aside0.mk H
  clear H
  go_enter Tryd.func41, Tryd.ntmps41
  go_wp2
  go_loopg [3, 8] k (fun kq v3 v8 w' => ∃ (x3_1 : Int) (x8_1 : Int), v3 = .int .u32 x3_1 ∧ v8 = .int .i64 x8_1 ∧ Aside0 (crc_Of_p.l0 kq x3_1 l0 (l0.length : Int) x8_1 = some r) ∧ Aside0 (kq ≤ k) ∧ Aside0 (Below w.heap.size w w'))
  case atStart => exact ⟨(0), (0), (by first | rfl | (simp; done) | (simp [*]; done) | (simp [M.isEmpty_bne]; done)), (by first | rfl | (simp; done) | (simp [*]; done) | (simp [M.isEmpty_bne]; done)), H', ⟨Nat.le_refl _⟩, ⟨M.up HB⟩⟩
  case round =>
    clear H'
    obtain ⟨x3_1, x8_1, rfl, rfl, HA, HK1, HB⟩ := hrel
    cases gk with
    | zero => exact absurd HA.out (by simp [crc_Of_p.l0])
    | succ k1 =>
      have H := HA.out
      clear HA
      simp only [crc_Of_p.l0] at H
      by_cases c2 : x8_1 < (l0.length : Int)
      · rw [if_pos c2] at H
        have c2b0 : decide (x8_1 < (l0.length : Int)) = true := decide_eq_true c2
        clear c2
        by_cases c3 : 0 ≤ x8_1
        · rw [if_pos c3] at H
          have c3b0 : decide (0 ≤ x8_1) = true := decide_eq_true c3
          clear c3
          by_cases c4 : x8_1 < (l0.length : Int)
          · rw [if_pos c4] at H
            have c4b0 : decide (x8_1 < (l0.length : Int)) = true := decide_eq_true c4
            clear c4
            replace H := Option.bind_eq_some_iff.mp H
            obtain ⟨t105, A50, H⟩ := H
            replace H : (crc_Of_p.l0 k1 t105 l0 (l0.length : Int) (wrap64 (x8_1 + 1))) = some r := H
            have A5 := Aside0.mk A50
            clear A50
            have H' := Aside0.mk H
            clear H
            have p104 : 0 ≤ (x8_1 : Int) := of_decide_eq_true (by first | (with_reducible assumption) | assumption)
            have q104 : x8_1 < (l0.length : Int) := of_decide_eq_true (by first | (with_reducible assumption) | assumption)
            obtain ⟨ad104, e104, hx104_0⟩ := Kd.at_string HR0.out x8_1 p104 q104
            cases e104
            replace hx104_0 := (HB.out.cell (World.block_lt_of_cell? w _ hx104_0)).trans hx104_0
            replace p104 := eq_true p104
            replace q104 := eq_true q104
            go_wp2_with (first | ((with_reducible refine gate_callee (f := 48) rfl ?_); refine M.goes (some 14) Tryd.func48 #[.int .u32 x3_1, .string (rdOf ByteArray.empty l0 x8_1)] rfl ?_; (with_reducible refine (crc_On.calls x3_1 (rdOf ByteArray.empty l0 x8_1) t105 _ A5.out (hT := M.tab_up HT (M.up HB))).mono ?_); rintro e w6 ⟨rfl, hb⟩; refine ⟨_, rfl, ?_⟩; have n0_ := M.upS HB hb; clear HB; have HB := n0_; clear n0_; (try clear hb)))
            go_roundg k1
            case measure => have := HK1.out; omega
            case rel => exact ⟨(t105), (wrap64 (x8_1 + 1)), (by first | rfl | (simp; done) | (simp [*]; done) | (simp [M.isEmpty_bne]; done)), (by first | rfl | (simp; done) | (simp [*]; done) | (simp [M.isEmpty_bne]; done)), H', ⟨by have := HK1.out; omega⟩, ⟨M.up HB⟩⟩
          · rw [if_neg c4] at H
            exact absurd H (by simp)
        · rw [if_neg c3] at H
          exact absurd H (by simp)
      · rw [if_neg c2] at H
        have c2b0 : decide (x8_1 < (l0.length : Int)) = false := decide_eq_false c2
        clear c2
        obtain rfl := Option.some.inj H
        go_wp2
        go_ret
        exact M.fin (M.up HB)

-- this session's own plain form
def crc_Of.f (l0 : List ByteArray) : Option Int := if (∀ s ∈ l0, s.size ≤ 9223372036854775806) ∧ l0.length ≤ 9223372036854775806 then some ((l0.foldl (fun n s => M.con n (M.bs s)) 0 : Nat) : Int) else none
theorem crc_Of.loop (l : List ByteArray) (hs : ∀ s ∈ l, s.size ≤ 9223372036854775806) (hl : l.length ≤ 9223372036854775806) (d : Nat) : ∀ (i n : Nat), i + d = l.length → n < 4294967296 →
    crc_Of_p.l0 (d + 1) (n : Int) l (l.length : Int) (i : Int) = some (((l.drop i).foldl (fun n s => M.con n (M.bs s)) n : Nat) : Int) := by
  induction d with
  | zero =>
    intro i n hi hn
    rw [crc_Of_p.l0, if_neg (by omega), List.drop_of_length_le (by omega)]; rfl
  | succ d ih =>
    intro i n hi hn
    have hlt : i < l.length := by omega
    have hrd : rdOf ByteArray.empty l (i : Int) = l[i] := by simp [rdOf, List.getD, hlt]
    unfold crc_Of_p.l0 crc_On.f
    rw [if_pos (by omega), if_pos (by omega), if_pos (by omega), hrd, if_pos ⟨by omega, by omega, hs _ (List.getElem_mem hlt)⟩, Option.bind_some, Int.toNat_natCast, M.wrap64_id (by omega) (by omega), show (i : Int) + 1 = ((i + 1 : Nat) : Int) from by omega, ih (i + 1) _ (by omega) (M.con_lt _), List.drop_eq_getElem_cons hlt, List.foldl_cons]
theorem crc_Of.ev (l : List ByteArray) (r : Int) (h : crc_Of.f l = some r) : ∃ k, crc_Of_p.f k l = some r := by
  unfold crc_Of.f at h
  split at h
  case isFalse => cases h
  case isTrue hh =>
    refine ⟨l.length + 1, ?_⟩
    rw [← h]
    have := crc_Of.loop l hh.1 hh.2 l.length 0 0 (by omega) (by decide)
    rw [List.drop_zero] at this
    exact this
theorem crc_Of.calls (A0 : Option Addr) (c0 : Nat) (l0 : List ByteArray) (r : Int) (w : World) (hr0 : Kd.C Kd.string w A0 l0.length l0) (hc0 : l0.length ≤ c0) (h : crc_Of.f l0 = some r) (hT : M.tab 0 w) :
    Calls Tryd.prog 41 #[.slice A0 l0.length c0] w fun e w' => e = .returned (.int .u32 r) ∧ Below w.heap.size w w' := by
  have HT := Aside0.mk hT
  clear hT
  obtain ⟨k, hk⟩ := crc_Of.ev _ _ h
  exact crc_Of_p.calls (hT := HT.out) (k := k) (w := w) (h := hk) (hr0 := hr0) (hc0 := hc0)

/-! ### crc_Seal_p: function 30 -/
def crc_Seal_p.f (a0 : ByteArray) : Option (ByteArray) := (crc_Of.f (([a0] : List ByteArray))).bind fun t109 => ((crc_tail.f t109).bind fun t110 => (if a0.size + t110.size ≤ 9223372036854775807 then (some (a0 ++ t110)) else (none)))
set_option maxHeartbeats 8000000 in
set_option maxRecDepth 100000 in
theorem crc_Seal_p.calls (a0 : ByteArray) (r : ByteArray) (w : World) (h : crc_Seal_p.f a0 = some r) (hT : M.tab 0 w) :
    Calls Tryd.prog 30 #[.string a0] w fun e w' => e = .returned (.string r) ∧ Below w.heap.size w w' := by
  have HT := Aside0.mk hT
  clear hT
  have HB := Aside0.mk (Below.refl w.heap.size w)
  have H : ((crc_Of.f (([a0] : List ByteArray))).bind fun t109 => ((crc_tail.f t109).bind fun t110 => (if a0.size + t110.size ≤ 9223372036854775807 then (some (a0 ++ t110)) else (none)))) = some r := h
  clear h
  obtain ⟨y106, hy106⟩ : ∃ y_ : List ByteArray, y_ = (([a0] : List ByteArray)) := ⟨_, rfl⟩
  replace H : ((crc_Of.f y106).bind fun t109 => ((crc_tail.f t109).bind fun t110 => (if a0.size + t110.size ≤ 9223372036854775807 then (some (a0 ++ t110)) else (none)))) = some r := by first | (rw [hy106]; with_reducible exact H) | (have H2_ := (Option.bind_some _ _).symm.trans H; rw [hy106]; with_reducible exact H2_) | (have H2_ := (Option.bind_some _ _).symm.trans H; with_reducible exact H2_) | with_reducible exact H | (rw [hy106]; exact H) | exact H
  have Ny106 := Aside0.mk hy106
  clear hy106
  replace H := Option.bind_eq_some_iff.mp H
  obtain ⟨t109, A20, H⟩ := H
  replace H : ((crc_tail.f t109).bind fun t110 => (if a0.size + t110.size ≤ 9223372036854775807 then (some (a0 ++ t110)) else (none))) = some r := H
  have A2 := Aside0.mk A20
  clear A20
  replace H := Option.bind_eq_some_iff.mp H
  obtain ⟨t110, A30, H⟩ := H
  replace H : (if a0.size + t110.size ≤ 9223372036854775807 then (some (a0 ++ t110)) else (none)) = some r := H
  have A3 := Aside0.mk A30
  clear A30
  by_cases c4 : a0.size + t110.size ≤ 9223372036854775807
  · rw [if_pos c4] at H
    have c4b0 := eq_true c4
    have c4b1 : decide (a0.size + t110.size ≤ 9223372036854775807) = true := decide_eq_true c4
    try have c4b2 : (9223372036854775807 < a0.size + t110.size) = False := eq_false (Nat.not_lt.2 c4)
    obtain rfl := Option.some.inj H
    go_enter Tryd.func30, Tryd.ntmps30
    go_wp2_with (first | ((with_reducible refine gate_dst (N := 5) rfl ?_); refine Kd.R_lit Kd.string _ 9 ?hg (N := 5) ?hd (xs := ([a0] : List ByteArray)) (inner := [.string a0]) (ok := fun _ => True) (okp := fun _ => True) ?hr ?hp (fun _ hk => hk) trivial (Below.refl _ _) (Nat.le_refl _) (by simp) ?_; (case hd => rfl); (case hg => rfl); (case hr => first | (go_simp; done) | (go_simp; rfl)); (case hp => exact (Reps.one (show Kd.M Kd.string _ _ _ a0 [.string a0] from rfl) (Reps.none _ _))); intro v107 w5 ho6 hb hg_ hnew_; clear hg_ hnew_; (first | rw [← Ny106.out] at ho6 | (simp only [Int.reduceToNat] at ho6; rw [← Ny106.out] at ho6)); have n0_ := Aside0.mk (Kd.R_lower ho6 (below_size (M.up HB))); have n1_ := M.upS HB hb; clear HB; have HO108 := n0_; have HB := n1_; clear n0_ n1_; clear hb ho6; obtain ⟨Ao7, co7, eo7⟩ := Kd.R_slice HO108.out; subst eo7) | ((with_reducible refine gate_callee (f := 41) rfl ?_); refine M.goes (some 6) Tryd.func41 #[.slice Ao7 y106.length co7] rfl ?_; (with_reducible refine (crc_Of.calls _ _ y106 t109 _ ?side1 ?side2 A2.out (hT := M.tab_up HT (M.up HB))).mono ?_); (case side1 => repeat (first | exact (Kd.R_reads' HO108.out).2.2 | (with_reducible refine Kd.C_alloc ?_ _) | (with_reducible refine Kd.C_drewN ?_ _) | (with_reducible refine Kd.C_drew ?_))); (case side2 => exact (Kd.R_reads' HO108.out).2.1); rintro e w8 ⟨rfl, hb⟩; refine ⟨_, rfl, ?_⟩; have n0_ := M.roB HO108 hb; have n1_ := M.upS HB hb; clear HO108 HB; have HO108 := n0_; have HB := n1_; clear n0_ n1_; (try clear hb)) | ((with_reducible refine gate_callee (f := 40) rfl ?_); refine M.goes (some 7) Tryd.func40 #[.int .u32 t109] rfl ?_; (with_reducible refine (crc_tail.calls t109 t110 _ A3.out).mono ?_); rintro e w9 ⟨rfl, hb⟩; refine ⟨_, rfl, ?_⟩; have n0_ := M.roB HO108 hb; have n1_ := M.upS HB hb; clear HO108 HB; have HO108 := n0_; have HB := n1_; clear n0_ n1_; (try clear hb)))
    go_ret
    exact M.fin (M.up HB)
  · rw [if_neg c4] at H
    exact absurd H (by simp)

-- this session's own plain form
def crc_Seal.f (a0 : ByteArray) : Option ByteArray := if a0.size ≤ 9223372036854775800 then some (M.sb (M.cseal (M.bs a0))) else none
theorem crc_Seal.ev (a0 : ByteArray) (r : ByteArray) (h : crc_Seal.f a0 = some r) : crc_Seal_p.f a0 = some r := by
  unfold crc_Seal.f at h
  split at h
  case isFalse => cases h
  case isTrue hh =>
    rw [← h]
    unfold crc_Seal_p.f crc_Of.f crc_tail.f
    rw [if_pos ⟨by intro s hs; rw [List.mem_singleton.1 hs]; omega, by simp⟩, Option.bind_some, Option.bind_some, M.tail_nums]
    have hl := M.ctail_length (M.con 0 (M.bs a0))
    rw [if_pos (by rw [M.size_sb]; show a0.size + (M.ctail (M.con 0 (M.bs a0))).length ≤ _; omega)]
    exact congrArg some (M.bs_inj (by rw [M.bs_append, M.bs_sb, M.bs_sb]; rfl))
theorem crc_Seal.calls (a0 : ByteArray) (r : ByteArray) (w : World) (h : crc_Seal.f a0 = some r) (hT : M.tab 0 w) :
    Calls Tryd.prog 30 #[.string a0] w fun e w' => e = .returned (.string r) ∧ Below w.heap.size w w' := by
  have HT := Aside0.mk hT
  clear hT
  exact crc_Seal_p.calls (hT := HT.out) (w := w) (h := crc_Seal.ev _ _ h)

/-! ### frame_Put_p: function 11 -/
def frame_Put_p.f (a0 : ByteArray) : Option (ByteArray × Int) := (frame_Check.f a0).bind fun t111 => (if t111 = 0 then ((crc_Seal.f a0).bind fun t112 => ((scan_PutText.f t112).bind fun t113 => (some (t113, 0)))) else (some ((⟨#[]⟩ : ByteArray), t111)))
set_option maxHeartbeats 8000000 in
set_option maxRecDepth 100000 in
theorem frame_Put_p.calls (a0 : ByteArray) (r1 : ByteArray) (r2 : Int) (w : World) (h : frame_Put_p.f a0 = some (r1, r2)) (hT : M.tab 0 w) :
    Calls Tryd.prog 11 #[.string a0] w fun e w' => e = .returned (.tuple #[.string r1, .int .i64 r2]) ∧ Below w.heap.size w w' := by
  have HT := Aside0.mk hT
  clear hT
  have HB := Aside0.mk (Below.refl w.heap.size w)
  have H : ((frame_Check.f a0).bind fun t111 => (if t111 = 0 then ((crc_Seal.f a0).bind fun t112 => ((scan_PutText.f t112).bind fun t113 => (some (t113, 0)))) else (some ((⟨#[]⟩ : ByteArray), t111)))) = some (r1, r2) := h
  clear h
  replace H := Option.bind_eq_some_iff.mp H
  obtain ⟨t111, A20, H⟩ := H
  replace H : (if t111 = 0 then ((crc_Seal.f a0).bind fun t112 => ((scan_PutText.f t112).bind fun t113 => (some (t113, 0)))) else (some ((⟨#[]⟩ : ByteArray), t111))) = some (r1, r2) := H
  have A2 := Aside0.mk A20
  clear A20
  by_cases c3 : t111 = 0
  · rw [if_pos c3] at H
    have c3b0 : (t111 == 0) = true := beq_iff_eq.mpr c3
    have c3b1 : (t111 != 0) = false := bne_eq_false_iff_eq.mpr c3
    clear c3
    replace H := Option.bind_eq_some_iff.mp H
    obtain ⟨t112, A40, H⟩ := H
    replace H : ((scan_PutText.f t112).bind fun t113 => (some (t113, 0))) = some (r1, r2) := H
    have A4 := Aside0.mk A40
    clear A40
    replace H := Option.bind_eq_some_iff.mp H
    obtain ⟨t113, A50, H⟩ := H
    replace H : (some (t113, 0)) = some (r1, r2) := H
    have A5 := Aside0.mk A50
    clear A50
    simp only [Option.some.injEq, Prod.mk.injEq] at H
    obtain ⟨rfl, rfl⟩ := H
    go_enter Tryd.func11, Tryd.ntmps11
    go_wp2_with (first | ((with_reducible refine gate_callee (f := 13) rfl ?_); refine M.goes (some 6) Tryd.func13 #[.string a0] rfl ?_; (with_reducible refine (frame_Check.calls a0 t111 _ A2.out).mono ?_); rintro e w' ⟨rfl, ⟨nd, rfl⟩⟩; refine ⟨_, rfl, ?_⟩) | ((with_reducible refine gate_callee (f := 30) rfl ?_); refine M.goes (some 11) Tryd.func30 #[.string a0] rfl ?_; (with_reducible refine (crc_Seal.calls a0 t112 _ A4.out (hT := M.tab_up HT (M.up HB))).mono ?_); rintro e w6 ⟨rfl, hb⟩; refine ⟨_, rfl, ?_⟩; have n0_ := M.upS HB hb; clear HB; have HB := n0_; clear n0_; (try clear hb)) | ((with_reducible refine gate_callee (f := 29) rfl ?_); refine M.goes (some 12) Tryd.func29 #[.string t112] rfl ?_; (with_reducible refine (scan_PutText.calls t112 t113 _ A5.out).mono ?_); rintro e w7 ⟨rfl, hb⟩; refine ⟨_, rfl, ?_⟩; have n0_ := M.upS HB hb; clear HB; have HB := n0_; clear n0_; (try clear hb)))
    go_ret2
    exact M.fin (M.up HB)
  · rw [if_neg c3] at H
    have c3b0 : (t111 == 0) = false := beq_eq_false_iff_ne.mpr c3
    have c3b1 : (t111 != 0) = true := bne_iff_ne.mpr c3
    simp only [Option.some.injEq, Prod.mk.injEq] at H
    obtain ⟨rfl, rfl⟩ := H
    go_enter Tryd.func11, Tryd.ntmps11
    go_wp2_with (first | ((with_reducible refine gate_callee (f := 13) rfl ?_); refine M.goes (some 6) Tryd.func13 #[.string a0] rfl ?_; (with_reducible refine (frame_Check.calls a0 t111 _ A2.out).mono ?_); rintro e w' ⟨rfl, ⟨nd, rfl⟩⟩; refine ⟨_, rfl, ?_⟩))
    go_ret2
    exact M.fin (M.up HB)

-- this session's own plain form
def frame_Put.f (a0 : ByteArray) : Option (ByteArray × Int) := some (if M.fwrong a0 = 0 then (M.sb (M.frm a0), 0) else (M.sb [], M.fwrong a0))
theorem frame_Put.ev (a0 : ByteArray) (r : ByteArray × Int) (h : frame_Put.f a0 = some r) : frame_Put_p.f a0 = some r := by
  rw [← h]
  unfold frame_Put_p.f frame_Check.f frame_Put.f
  rw [Option.bind_some]
  by_cases h0 : M.fwrong a0 = 0
  · rw [if_pos h0, if_pos h0]
    have hz : a0.size ≤ 65536 := by
      unfold M.fwrong at h0
      split at h0
      · cases h0
      · split at h0
        · cases h0
        · omega
    have hc := M.cseal_length a0
    unfold crc_Seal.f scan_PutText.f
    rw [if_pos (by omega), Option.bind_some, M.size_sb, if_pos (by omega), Option.bind_some]
    exact congrArg (fun z => some (z, (0 : Int))) (M.bs_inj (by rw [M.bs_append, M.bs_sb, M.bs_sb, M.bs_sb, hc]; rfl))
  · rw [if_neg h0, if_neg h0]; rfl
theorem frame_Put.calls (a0 : ByteArray) (r1 : ByteArray) (r2 : Int) (w : World) (h : frame_Put.f a0 = some (r1, r2)) (hT : M.tab 0 w) :
    Calls Tryd.prog 11 #[.string a0] w fun e w' => e = .returned (.tuple #[.string r1, .int .i64 r2]) ∧ Below w.heap.size w w' := by
  have HT := Aside0.mk hT
  clear hT
  exact frame_Put_p.calls (hT := HT.out) (w := w) (h := frame_Put.ev _ _ h)

/-! ### scan_PutNum_p: function 31 -/
def scan_PutNum_p.f (a0 : Int) : Option (ByteArray) := (varint_Put.f (IntKind.u64.wrap (mx a0 0))).bind fun t114 => (some t114)
set_option maxHeartbeats 8000000 in
set_option maxRecDepth 100000 in
theorem scan_PutNum_p.calls (a0 : Int) (r : ByteArray) (w : World) (h : scan_PutNum_p.f a0 = some r) :
    Calls Tryd.prog 31 #[.int .i64 a0] w fun e w' => e = .returned (.string r) ∧ Below w.heap.size w w' := by
  have HB := Aside0.mk (Below.refl w.heap.size w)
  have H : ((varint_Put.f (IntKind.u64.wrap (mx a0 0))).bind fun t114 => (some t114)) = some r := h
  clear h
  obtain ⟨ji2, hji2⟩ : ∃ j_ : Int, (mx a0 0) = j_ := ⟨_, rfl⟩
  replace H : ((varint_Put.f (IntKind.u64.wrap (ji2))).bind fun t114 => (some t114)) = some r := by first | (rw [hji2] at H; exact H) | (simp only [hji2] at H ⊢; exact H)
  (try (have hji2l : 0 ≤ ji2 := by (rw [← hji2]; unfold mx; (repeat' split) <;> omega)))
  (try (have hji2m : 0 ≤ ji2 := by omega))
  have hji2_ : (if a0 < 0 then 0 else a0) = ji2 := hji2
  replace H := Option.bind_eq_some_iff.mp H
  obtain ⟨t114, A30, H⟩ := H
  replace H : (some t114) = some r := H
  have A3 := Aside0.mk A30
  clear A30
  obtain rfl := Option.some.inj H
  go_enter Tryd.func31, Tryd.ntmps31
  go_wp2_with (first | ((with_reducible refine gate_callee (f := 39) rfl ?_); refine goesL_ (some 6) rfl rfl Tryd.func39 (by kernel_rfl) rfl #[.int .u64 (IntKind.u64.wrap (ji2))] rfl (by (try simp only [List.map_toArray, List.map_cons, List.map_nil]); first | done | (simp only [hji2]; rfl) | rfl | (simp only [List.length_drop, List.length_take]; rfl)) ?_; (with_reducible refine (varint_Put.calls (IntKind.u64.wrap (ji2)) t114 _ A3.out).mono ?_); rintro e w4 ⟨rfl, hb⟩; refine ⟨_, rfl, ?_⟩; have n0_ := M.upS HB hb; clear HB; have HB := n0_; clear n0_; (try clear hb)))
  go_ret
  exact ⟨by first | rfl | (simp [errW_none, errW_some] <;> rfl) | (simp only [← hji2]; first | rfl | (simp [errW_none, errW_some] <;> rfl)) | (simp [*, errW_none, errW_some] <;> rfl), M.up HB⟩

-- this session's own plain form
def scan_PutNum.f (a0 : Int) : Option ByteArray := if a0 ≤ 9223372036854775807 then some (M.sb (M.vb a0.toNat)) else none
theorem scan_PutNum.ev (a0 : Int) (r : ByteArray) (h : scan_PutNum.f a0 = some r) : scan_PutNum_p.f a0 = some r := by
  unfold scan_PutNum.f at h
  split at h
  · rename_i hh
    have e : IntKind.u64.wrap (mx a0 0) = (a0.toNat : Int) := by
      by_cases h0 : 0 ≤ a0
      · rw [M.mx_ge h0, M.u64_id h0 (by omega)]; omega
      · rw [M.mx_le (by omega), M.u64_id (by decide) (by decide)]; omega
    unfold scan_PutNum_p.f varint_Put.f
    rw [e, if_pos ⟨by omega, by omega⟩, Option.bind_some, Int.toNat_natCast]
    exact h
  · cases h
theorem scan_PutNum.calls (a0 : Int) (r : ByteArray) (w : World) (h : scan_PutNum.f a0 = some r) :
    Calls Tryd.prog 31 #[.int .i64 a0] w fun e w' => e = .returned (.string r) ∧ Below w.heap.size w w' := by
  exact scan_PutNum_p.calls (w := w) (h := scan_PutNum.ev _ _ h)

/-! ### frame_Size_p: function 14 -/
def frame_Size_p.l0 : Nat → Int → List ByteArray → Int → Int → Option (Int)
  | 0, _, _, _, _ => none
  | k + 1, x3, x6, x7, x8 => if x8 < x7 then (if 0 ≤ x8 then (if x8 < (x6.length : Int) then ((scan_PutNum.f (wrap64 (((rdOf ByteArray.empty x6 x8).size : Int) + 4))).bind fun t116 => (frame_Size_p.l0 k (wrap64 (x3 + (wrap64 ((wrap64 ((t116.size : Int) + ((rdOf ByteArray.empty x6 x8).size : Int))) + 4)))) x6 x7 (wrap64 (x8 + 1)))) else (none)) else (none)) else (some x3)
def frame_Size_p.f (k : Nat) (l0 : List ByteArray) : Option (Int) := frame_Size_p.l0 k 0 l0 (l0.length : Int) 0
theorem frame_Size_p.mono_l : ∀ k, (∀ y0 y1 y2 y3, LeO (frame_Size_p.l0 k y0 y1 y2 y3) (frame_Size_p.l0 (k + 1) y0 y1 y2 y3))
  | 0 => fun _ _ _ _ r h => by simp [frame_Size_p.l0] at h
  | k + 1 => by
    have ih0 := frame_Size_p.mono_l k
    · intro y0 y1 y2 y3
      unfold frame_Size_p.l0
      repeat' first
      | (with_reducible exact ih0 _ _ _ _)
      | (with_reducible exact LeO.refl _)
      | (with_reducible exact LeO.none _)
      | (with_reducible refine LeO.ite ?_ ?_)
      | (with_reducible refine LeO.bind ?_ (fun _ => ?_))
      | exact ih0 _ _ _ _
      | exact LeO.none _
      | refine LeO.ite ?_ ?_
      | refine LeO.bind ?_ (fun _ => ?_)
theorem frame_Size_p.mono : ∀ a0 k, LeO (frame_Size_p.f k a0) (frame_Size_p.f (k + 1) a0) := by
  intro a0 k
  have ih0 := frame_Size_p.mono_l k
  unfold frame_Size_p.f
  repeat' first
      | (with_reducible exact ih0 _ _ _ _)
      | (with_reducible exact LeO.refl _)
      | (with_reducible exact LeO.none _)
      | (with_reducible refine LeO.ite ?_ ?_)
      | (with_reducible refine LeO.bind ?_ (fun _ => ?_))
      | exact ih0 _ _ _ _
      | exact LeO.none _
      | refine LeO.ite ?_ ?_
      | refine LeO.bind ?_ (fun _ => ?_)
set_option maxHeartbeats 8000000 in
set_option maxRecDepth 100000 in
theorem frame_Size_p.calls (k : Nat) (A0 : Option Addr) (c0 : Nat) (l0 : List ByteArray) (r : Int) (w : World) (hr0 : Kd.C Kd.string w A0 l0.length l0) (hc0 : l0.length ≤ c0) (h : frame_Size_p.f k l0 = some r) :
    Calls Tryd.prog 14 #[.slice A0 l0.length c0] w fun e w' => e = .returned (.int .i64 r) ∧ Below w.heap.size w w' := by
  have HR0 := Aside0.mk hr0
  have HC0 := Aside0.mk hc0
  clear hr0 hc0
  have HB := Aside0.mk (Below.refl w.heap.size w)
  have H : (frame_Size_p.l0 k 0 l0 (l0.length : Int) 0) = some r := h
  clear h
  have H' := Aside0.mk H
  clear H
  go_enter Tryd.func14, Tryd.ntmps14
  go_wp2
  go_loopg [3, 8] k (fun kq v3 v8 w' => ∃ (x3_1 : Int) (x8_1 : Int), v3 = .int .i64 x3_1 ∧ v8 = .int .i64 x8_1 ∧ Aside0 (frame_Size_p.l0 kq x3_1 l0 (l0.length : Int) x8_1 = some r) ∧ Aside0 (kq ≤ k) ∧ Aside0 (Below w.heap.size w w'))
  case atStart => exact ⟨(0), (0), (by first | rfl | (simp; done) | (simp [*]; done) | (simp [M.isEmpty_bne]; done)), (by first | rfl | (simp; done) | (simp [*]; done) | (simp [M.isEmpty_bne]; done)), H', ⟨Nat.le_refl _⟩, ⟨M.up HB⟩⟩
  case round =>
    clear H'
    try clear c1
    obtain ⟨x3_1, x8_1, rfl, rfl, HA, HK1, HB⟩ := hrel
    cases gk with
    | zero => exact absurd HA.out (by simp [frame_Size_p.l0])
    | succ k1 =>
      have H := HA.out
      clear HA
      simp only [frame_Size_p.l0] at H
      by_cases c2 : x8_1 < (l0.length : Int)
      · rw [if_pos c2] at H
        have c2b0 : decide (x8_1 < (l0.length : Int)) = true := decide_eq_true c2
        clear c2
        by_cases c3 : 0 ≤ x8_1
        · rw [if_pos c3] at H
          have c3b0 : decide (0 ≤ x8_1) = true := decide_eq_true c3
          clear c3
          by_cases c4 : x8_1 < (l0.length : Int)
          · rw [if_pos c4] at H
            have c4b0 : decide (x8_1 < (l0.length : Int)) = true := decide_eq_true c4
            clear c4
            replace H := Option.bind_eq_some_iff.mp H
            obtain ⟨t116, A50, H⟩ := H
            replace H : (frame_Size_p.l0 k1 (wrap64 (x3_1 + (wrap64 ((wrap64 ((t116.size : Int) + ((rdOf ByteArray.empty l0 x8_1).size : Int))) + 4)))) l0 (l0.length : Int) (wrap64 (x8_1 + 1))) = some r := H
            have A5 := Aside0.mk A50
            clear A50
            have H' := Aside0.mk H
            clear H
            have p115 : 0 ≤ (x8_1 : Int) := of_decide_eq_true (by first | (with_reducible assumption) | assumption)
            have q115 : x8_1 < (l0.length : Int) := of_decide_eq_true (by first | (with_reducible assumption) | assumption)
            obtain ⟨ad115, e115, hx115_0⟩ := Kd.at_string HR0.out x8_1 p115 q115
            cases e115
            replace hx115_0 := (HB.out.cell (World.block_lt_of_cell? w _ hx115_0)).trans hx115_0
            replace p115 := eq_true p115
            replace q115 := eq_true q115
            go_wp2_with (first | ((with_reducible refine gate_callee (f := 31) rfl ?_); refine M.goes (some 16) Tryd.func31 #[.int .i64 (wrap64 (((rdOf ByteArray.empty l0 x8_1).size : Int) + 4))] rfl ?_; (with_reducible refine (scan_PutNum.calls (wrap64 (((rdOf ByteArray.empty l0 x8_1).size : Int) + 4)) t116 _ A5.out).mono ?_); rintro e w6 ⟨rfl, hb⟩; refine ⟨_, rfl, ?_⟩; have n0_ := M.upS HB hb; clear HB; have HB := n0_; clear n0_; (try clear hb)))
            go_roundg k1
            case measure => have := HK1.out; omega
            case rel => exact ⟨(wrap64 (x3_1 + (wrap64 ((wrap64 ((t116.size : Int) + ((rdOf ByteArray.empty l0 x8_1).size : Int))) + 4)))), (wrap64 (x8_1 + 1)), (by first | rfl | (simp; done) | (simp [*]; done) | (simp [M.isEmpty_bne]; done)), (by first | rfl | (simp; done) | (simp [*]; done) | (simp [M.isEmpty_bne]; done)), H', ⟨by have := HK1.out; omega⟩, ⟨M.up HB⟩⟩
          · rw [if_neg c4] at H
            exact absurd H (by simp)
        · rw [if_neg c3] at H
          exact absurd H (by simp)
      · rw [if_neg c2] at H
        have c2b0 : decide (x8_1 < (l0.length : Int)) = false := decide_eq_false c2
        clear c2
        obtain rfl := Option.some.inj H
        go_wp2
        go_ret
        exact M.fin (M.up HB)

-- this session's own plain form
def frame_Size.f (l0 : List ByteArray) : Option Int := if l0.length ≤ 1000 ∧ ∀ s ∈ l0, s.size ≤ 1000000000 then some ((M.fsize l0 : Nat) : Int) else none
theorem frame_Size.loop (l : List ByteArray) (hl : l.length ≤ 1000) (hs : ∀ s ∈ l, s.size ≤ 1000000000) (d : Nat) : ∀ (i n : Nat), i + d = l.length → n ≤ i * 1000000100 →
    frame_Size_p.l0 (d + 1) (n : Int) l (l.length : Int) (i : Int) = some ((n + M.fsize (l.drop i) : Nat) : Int) := by
  induction d with
  | zero =>
    intro i n hi hn
    rw [frame_Size_p.l0, if_neg (by omega), List.drop_of_length_le (by omega)]; rfl
  | succ d ih =>
    intro i n hi hn
    have hlt : i < l.length := by omega
    have hrd : rdOf ByteArray.empty l (i : Int) = l[i] := by simp [rdOf, List.getD, hlt]
    have hz := hs _ (List.getElem_mem hlt)
    have hf := M.frm_length l[i]
    rw [List.drop_eq_getElem_cons hlt]
    rw [frame_Size_p.l0, if_pos (by omega), if_pos (by omega), if_pos (by omega), hrd]
    generalize l[i] = s at hz hf ⊢
    have hv := M.vb_le (s.size + 4) (by omega)
    unfold scan_PutNum.f
    rw [M.wrap64_id (i := (s.size : Int) + 4) (by omega) (by omega), if_pos (by omega), Option.bind_some, show ((s.size : Int) + 4).toNat = s.size + 4 from by omega, M.size_sb]
    rw [M.wrap64_id (i := ((M.vb (s.size + 4)).length : Int) + (s.size : Int)) (by omega) (by omega), M.wrap64_id (i := ((M.vb (s.size + 4)).length : Int) + (s.size : Int) + 4) (by omega) (by omega), M.wrap64_id (i := (n : Int) + _) (by omega) (by omega), M.wrap64_id (i := (i : Int) + 1) (by omega) (by omega)]
    rw [show (n : Int) + (((M.vb (s.size + 4)).length : Int) + (s.size : Int) + 4) = ((n + (M.frm s).length : Nat) : Int) from by omega, show (i : Int) + 1 = ((i + 1 : Nat) : Int) from by omega, ih (i + 1) _ (by omega) (by omega)]
    unfold M.fsize
    rw [List.map_cons, List.sum_cons]
    congr 2; omega
theorem frame_Size.ev (l : List ByteArray) (r : Int) (h : frame_Size.f l = some r) : ∃ k, frame_Size_p.f k l = some r := by
  unfold frame_Size.f at h
  split at h
  case isFalse => cases h
  case isTrue hh =>
    refine ⟨l.length + 1, ?_⟩
    rw [← h]
    have := frame_Size.loop l hh.1 hh.2 l.length 0 0 (by omega) (by omega)
    rw [List.drop_zero, Nat.zero_add] at this
    exact this
theorem frame_Size.calls (A0 : Option Addr) (c0 : Nat) (l0 : List ByteArray) (r : Int) (w : World) (hr0 : Kd.C Kd.string w A0 l0.length l0) (hc0 : l0.length ≤ c0) (h : frame_Size.f l0 = some r) :
    Calls Tryd.prog 14 #[.slice A0 l0.length c0] w fun e w' => e = .returned (.int .i64 r) ∧ Below w.heap.size w w' := by
  obtain ⟨k, hk⟩ := frame_Size.ev _ _ h
  exact frame_Size_p.calls (k := k) (w := w) (h := hk) (hr0 := hr0) (hc0 := hc0)

/-- A state of type 59 at block g of W; what its slices lead to came in by w0. -/
def IsS59 (w0 W : World) (g : Nat) (f0 : ByteArray) (f1 : Int) (f2 : Int) (f3 : Bool) : Prop := W.heap[g]? = some (.cells #[.string f0, .int .i64 f1, .int .i64 f2, .bool f3] 59 (0, 0)) ∧ w0.heap.size ≤ g
theorem IsS59.grown {w0 W : World} {g : Nat} {f0 : ByteArray} {f1 : Int} {f2 : Int} {f3 : Bool} {W1 : World} {row : Option Nat} (h : IsS59 w0 W g f0 f1 f2 f3) (hw : W.grownBy W1 row) (hne : some g ≠ row) : IsS59 w0 W1 g f0 f1 f2 f3 := by
  obtain ⟨hb, hg⟩ := h
  exact ⟨blk_grown hb hw hne, hg⟩
theorem IsS59.own_neN {w0 W : World} {g : Nat} {f0 : ByteArray} {f1 : Int} {f2 : Int} {f3 : Bool} {α : Type} {d : Kd α} {e : Nat} {base : Nat} {ok : Nat → Prop} {v : Value} {xs : List α} (h : IsS59 w0 W g f0 f1 f2 f3) (ho : Kd.N d e W base ok v xs) (ht : e ≠ 59) : some g ≠ v.ownBlock := by
  obtain ⟨hb, hg⟩ := h
  exact Kd.N_ne ho hb ht
theorem IsS59.fresh {w0 W : World} {g : Nat} {f0 : ByteArray} {f1 : Int} {f2 : Int} {f3 : Bool} (h : IsS59 w0 W g f0 f1 f2 f3) : ∀ k, W.heap.size ≤ k → k ≠ g := by
  obtain ⟨hb, hg⟩ := h
  exact Kd.freshB hb
theorem IsS59.kept {w0 W : World} {g : Nat} {f0 : ByteArray} {f1 : Int} {f2 : Int} {f3 : Bool} {W1 : World} {S : Nat → Prop} (h : IsS59 w0 W g f0 f1 f2 f3) (hk : Kept W W1 S) (hne : ¬ S g) : IsS59 w0 W1 g f0 f1 f2 f3 := by
  obtain ⟨hb, hg⟩ := h
  exact ⟨blk_kept hb hk hne, hg⟩
theorem IsS59.below {w0 W : World} {g : Nat} {f0 : ByteArray} {f1 : Int} {f2 : Int} {f3 : Bool} {W1 : World} (h : IsS59 w0 W g f0 f1 f2 f3) (hw : Below W.heap.size W W1) : IsS59 w0 W1 g f0 f1 f2 f3 := h.grown (grown_of_below hw none) (by simp)
theorem IsS59.alloc {w0 W : World} {g : Nat} {f0 : ByteArray} {f1 : Int} {f2 : Int} {f3 : Bool} (h : IsS59 w0 W g f0 f1 f2 f3) (o : Obj) : IsS59 w0 (W.alloc o) g f0 f1 f2 f3 := h.below (below_alloc (Below.refl _ _) o)
theorem IsS59.drewN {w0 W : World} {g : Nat} {f0 : ByteArray} {f1 : Int} {f2 : Int} {f3 : Bool} (h : IsS59 w0 W g f0 f1 f2 f3) (m : Nat) : IsS59 w0 (W.drewN m) g f0 f1 f2 f3 := h
theorem IsS59.drew {w0 W : World} {g : Nat} {f0 : ByteArray} {f1 : Int} {f2 : Int} {f3 : Bool} (h : IsS59 w0 W g f0 f1 f2 f3) : IsS59 w0 W.drew g f0 f1 f2 f3 := h
theorem IsS59.at_ {w0 W : World} {g : Nat} {f0 : ByteArray} {f1 : Int} {f2 : Int} {f3 : Bool} {w' : World} {m : Nat} (hq : W.drewN m = w') (h : IsS59 w0 W g f0 f1 f2 f3) : IsS59 w0 w' g f0 f1 f2 f3 := by subst hq; exact IsS59.drewN h m
theorem IsS59.apart {w0 W : World} {g : Nat} {f0 : ByteArray} {f1 : Int} {f2 : Int} {f3 : Bool} {α : Type} {d : Kd α} {e : Nat} {base : Nat} {ok : Nat → Prop} {v : Value} {xs : List α} (h : IsS59 w0 W g f0 f1 f2 f3) (ho : d.R e W base ok v xs) (ht : ∀ q, q ∈ e :: d.E → q ≠ 59) : d.R e W base (fun k => ok k ∧ k ≠ g) v xs := by
  obtain ⟨hb, hg⟩ := h
  exact Kd.R_types ho hb ht
theorem IsS59.own_ne {w0 W : World} {g : Nat} {f0 : ByteArray} {f1 : Int} {f2 : Int} {f3 : Bool} {α : Type} {d : Kd α} {e : Nat} {base : Nat} {ok : Nat → Prop} {v : Value} {xs : List α} (h : IsS59 w0 W g f0 f1 f2 f3) (ho : d.R e W base ok v xs) (ht : e ≠ 59) : some g ≠ v.ownBlock := by
  obtain ⟨hb, hg⟩ := h
  exact Kd.R_ne ho hb ht
theorem IsS59.apartQ {w0 W : World} {g : Nat} {f0 : ByteArray} {f1 : Int} {f2 : Int} {f3 : Bool} {α : Type} {d : Kd α} {e : Nat} {base : Nat} {ok : Nat → Prop} {v : Value} {xs : List α} (h : IsS59 w0 W g f0 f1 f2 f3) (ho : d.Q e W base ok v xs) (ht : ∀ q, q ∈ e :: d.E → q ≠ 59) : d.Q e W base (fun k => ok k ∧ k ≠ g) v xs := by
  obtain ⟨hb, hg⟩ := h
  exact Kd.Q_types ho hb ht
theorem IsS59.own_neQ {w0 W : World} {g : Nat} {f0 : ByteArray} {f1 : Int} {f2 : Int} {f3 : Bool} {α : Type} {d : Kd α} {e : Nat} {base : Nat} {ok : Nat → Prop} {v : Value} {xs : List α} (h : IsS59 w0 W g f0 f1 f2 f3) (ho : d.Q e W base ok v xs) (ht : e ≠ 59) : some g ≠ v.ownBlock := by
  obtain ⟨hb, hg⟩ := h
  exact Kd.Q_ne ho hb ht
theorem IsS59.apartS {w0 W : World} {g : Nat} {f0 : ByteArray} {f1 : Int} {f2 : Int} {f3 : Bool} {α : Type} {d : Kd α} {e : Nat} {base : Nat} {ok : Nat → Prop} {v : Value} {xs : List α} (h : IsS59 w0 W g f0 f1 f2 f3) (ho : d.S e W base ok v xs) (ht : ∀ q, q ∈ e :: d.E → q ≠ 59) : d.S e W base (fun k => ok k ∧ k ≠ g) v xs := by
  obtain ⟨hb, hg⟩ := h
  exact Kd.S_types ho hb ht
theorem IsS59.own_neS {w0 W : World} {g : Nat} {f0 : ByteArray} {f1 : Int} {f2 : Int} {f3 : Bool} {α : Type} {d : Kd α} {e : Nat} {base : Nat} {ok : Nat → Prop} {v : Value} {xs : List α} (h : IsS59 w0 W g f0 f1 f2 f3) (ho : d.S e W base ok v xs) (ht : e ≠ 59) : some g ≠ v.ownBlock := by
  obtain ⟨hb, hg⟩ := h
  exact Kd.S_ne ho hb ht
theorem IsS59.lt {w0 W : World} {g : Nat} {f0 : ByteArray} {f1 : Int} {f2 : Int} {f3 : Bool} (h : IsS59 w0 W g f0 f1 f2 f3) : g < W.heap.size := by
  obtain ⟨hb, hg⟩ := h
  exact blk_lt hb
theorem IsS59.ge {w0 W : World} {g : Nat} {f0 : ByteArray} {f1 : Int} {f2 : Int} {f3 : Bool} (h : IsS59 w0 W g f0 f1 f2 f3) : w0.heap.size ≤ g := by
  obtain ⟨hb, hg⟩ := h
  exact hg
theorem IsS59.ne_blk {w0 W : World} {g : Nat} {f0 : ByteArray} {f1 : Int} {f2 : Int} {f3 : Bool} {a : Nat} {cs : Array Value} {t : TypeId} {fr : Nat × Nat} (h : IsS59 w0 W g f0 f1 f2 f3) (hb2 : W.heap[a]? = some (.cells cs t fr)) (ht : t ≠ 59) : g ≠ a := by
  obtain ⟨hb, hg⟩ := h
  rintro rfl
  rw [hb] at hb2
  injection hb2 with hb2
  injection hb2 with _ ht2
  exact ht ht2.symm
theorem IsS59.far {w0 W : World} {g : Nat} {f0 : ByteArray} {f1 : Int} {f2 : Int} {f3 : Bool} {p : Addr} (h : IsS59 w0 W g f0 f1 f2 f3) (hne : g ≠ p.block) (u : Value) : IsS59 w0 (W.setCell p u) g f0 f1 f2 f3 := by
  obtain ⟨hb, hg⟩ := h
  exact ⟨blk_far hb hne u, hg⟩
theorem cellS59_0 {W : World} {g : Nat} {f0 : ByteArray} {f1 : Int} {f2 : Int} {f3 : Bool} (h : W.heap[g]? = some (.cells #[.string f0, .int .i64 f1, .int .i64 f2, .bool f3] 59 (0, 0))) : W.cell? ⟨g, 0, none⟩ = some (.string f0) := (blk_cell h 0).trans rfl
theorem IsS59.set_0 {w0 W : World} {g : Nat} {f0 : ByteArray} {f1 : Int} {f2 : Int} {f3 : Bool} (h : IsS59 w0 W g f0 f1 f2 f3) (x : ByteArray) : IsS59 w0 (W.setCell ⟨g, 0, none⟩ (.string x)) g x f1 f2 f3 := by
  obtain ⟨hb, hg⟩ := h
  exact ⟨by simpa using blk_set hb 0 (.string x), hg⟩
theorem cellS59_1 {W : World} {g : Nat} {f0 : ByteArray} {f1 : Int} {f2 : Int} {f3 : Bool} (h : W.heap[g]? = some (.cells #[.string f0, .int .i64 f1, .int .i64 f2, .bool f3] 59 (0, 0))) : W.cell? ⟨g, 1, none⟩ = some (.int .i64 f1) := (blk_cell h 1).trans rfl
theorem IsS59.set_1 {w0 W : World} {g : Nat} {f0 : ByteArray} {f1 : Int} {f2 : Int} {f3 : Bool} (h : IsS59 w0 W g f0 f1 f2 f3) (x : Int) : IsS59 w0 (W.setCell ⟨g, 1, none⟩ (.int .i64 x)) g f0 x f2 f3 := by
  obtain ⟨hb, hg⟩ := h
  exact ⟨by simpa using blk_set hb 1 (.int .i64 x), hg⟩
theorem cellS59_2 {W : World} {g : Nat} {f0 : ByteArray} {f1 : Int} {f2 : Int} {f3 : Bool} (h : W.heap[g]? = some (.cells #[.string f0, .int .i64 f1, .int .i64 f2, .bool f3] 59 (0, 0))) : W.cell? ⟨g, 2, none⟩ = some (.int .i64 f2) := (blk_cell h 2).trans rfl
theorem IsS59.set_2 {w0 W : World} {g : Nat} {f0 : ByteArray} {f1 : Int} {f2 : Int} {f3 : Bool} (h : IsS59 w0 W g f0 f1 f2 f3) (x : Int) : IsS59 w0 (W.setCell ⟨g, 2, none⟩ (.int .i64 x)) g f0 f1 x f3 := by
  obtain ⟨hb, hg⟩ := h
  exact ⟨by simpa using blk_set hb 2 (.int .i64 x), hg⟩
theorem cellS59_3 {W : World} {g : Nat} {f0 : ByteArray} {f1 : Int} {f2 : Int} {f3 : Bool} (h : W.heap[g]? = some (.cells #[.string f0, .int .i64 f1, .int .i64 f2, .bool f3] 59 (0, 0))) : W.cell? ⟨g, 3, none⟩ = some (.bool f3) := (blk_cell h 3).trans rfl
theorem IsS59.set_3 {w0 W : World} {g : Nat} {f0 : ByteArray} {f1 : Int} {f2 : Int} {f3 : Bool} (h : IsS59 w0 W g f0 f1 f2 f3) (x : Bool) : IsS59 w0 (W.setCell ⟨g, 3, none⟩ (.bool x)) g f0 f1 f2 x := by
  obtain ⟨hb, hg⟩ := h
  exact ⟨by simpa using blk_set hb 3 (.bool x), hg⟩
theorem IsS59.new (w0 W : World) (f0 : ByteArray) (f1 : Int) (f2 : Int) (f3 : Bool) (hB : Below w0.heap.size w0 W) : IsS59 w0 (W.alloc (.cells #[.string f0, .int .i64 f1, .int .i64 f2, .bool f3] 59)) W.heap.size f0 f1 f2 f3 := ⟨by simpa using heap_alloc_new W _, hB.size⟩

/-! ### scan_New: function 15 -/
def scan_New.f (a0 : ByteArray) : Option (ByteArray × Int × Int × Bool) := some (a0, 0, 0, true)
set_option maxHeartbeats 8000000 in
set_option maxRecDepth 100000 in
theorem scan_New.calls (a0 : ByteArray) (r1 : ByteArray) (r2 : Int) (r3 : Int) (r4 : Bool) (w0 w : World) (hB : Below w0.heap.size w0 w) (h : scan_New.f a0 = some (r1, r2, r3, r4)) :
    Calls Tryd.prog 15 #[.string a0] w fun e w' => ∃ g_ : Nat, e = .returned (.pointer (some ⟨g_, 0, none⟩)) ∧ IsS59 w0 w' g_ r1 r2 r3 r4 ∧ Below w0.heap.size w0 w' ∧ Below w.heap.size w w' := by
  have hu59 := Tryd.underlying59
  have HBW := Aside0.mk (Below.refl w.heap.size w)
  have HW0 := Aside0.mk hB.size
  have HB := Aside0.mk hB
  clear hB
  have H : (some (a0, 0, 0, true)) = some (r1, r2, r3, r4) := h
  clear h
  simp only [Option.some.injEq, Prod.mk.injEq] at H
  obtain ⟨rfl, rfl, rfl, rfl⟩ := H
  go_enter Tryd.func15, Tryd.ntmps15
  go_wp2_with (first | ((with_reducible refine gate_dst (N := 5) rfl ?_); refine box_event ?hg (N := 5) ?hd (cs := #[.string a0, .int .i64 0, .int .i64 0, .bool true]) (t := 59) ?hr ?_; (case hd => rfl); (case hg => rfl); (case hr => first | (go_simp; done) | (go_simp; rfl)); intro zaa hg w2 hbox hb; have n0_ := Aside0.mk (below_step HBW.out hb); have n1_ := M.upS HB hb; have n2_ := Aside0.mk (hbox); have n3_ := Aside0.mk ((by rw [hg]; exact (below_size (by repeat (first | (with_reducible first | exact HBW.out | apply below_alloc | apply pw_below_drewN | apply below_drew1) | exact HBW.out))) : w.heap.size ≤ zaa)); have n4_ := Aside0.mk ((Nat.le_trans HW0.out (by rw [hg]; exact (below_size (by repeat (first | (with_reducible first | exact HBW.out | apply below_alloc | apply pw_below_drewN | apply below_drew1) | exact HBW.out))) : w.heap.size ≤ zaa) : w0.heap.size ≤ zaa)); clear HBW HB; have HBW := n0_; have HB := n1_; have zab := n2_; have zac := n3_; have zad := n4_; clear n0_ n1_ n2_ n3_ n4_; clear hb hbox hg))
  go_ret
  exact ⟨_, rfl, (show IsS59 w0 _ zaa a0 0 0 true from ⟨by (with_reducible repeat (first | refine blk_drewN ?_ _ | refine blk_drew ?_ | refine blk_alloc ?_ _)); exact zab.out, zad.out⟩), by repeat (first | (with_reducible first | exact HB.out | apply below_alloc | apply pw_below_drewN | apply below_drew1 | refine below_set ?_ zad.out) | exact HB.out), by repeat (first | (with_reducible first | exact HBW.out | apply below_alloc | apply pw_below_drewN | apply below_drew1 | refine below_set ?_ zac.out) | exact HBW.out)⟩

/-! ### scan_Scan_Err: function 19 -/
def scan_Scan_Err.f (s0_0 : ByteArray) (s0_1 : Int) (s0_2 : Int) (s0_3 : Bool) : Option (Int × ByteArray × Int × Int × Bool) := if s0_3 = true then (some (s0_2, s0_0, s0_1, s0_2, s0_3)) else (some (1, s0_0, s0_1, s0_2, s0_3))
set_option maxHeartbeats 8000000 in
set_option maxRecDepth 100000 in
theorem scan_Scan_Err.calls (g : Nat) (s0_0 : ByteArray) (s0_1 : Int) (s0_2 : Int) (s0_3 : Bool) (r1 : Int) (r2 : ByteArray) (r3 : Int) (r4 : Int) (r5 : Bool) (w0 w : World) (hI : IsS59 w0 w g s0_0 s0_1 s0_2 s0_3) (hB : Below w0.heap.size w0 w) (h : scan_Scan_Err.f s0_0 s0_1 s0_2 s0_3 = some (r1, r2, r3, r4, r5)) :
    Calls Tryd.prog 19 #[.pointer (some ⟨g, 0, none⟩)] w fun e w' => e = .returned (.int .i64 r1) ∧ IsS59 w0 w' g r2 r3 r4 r5 ∧ Below w0.heap.size w0 w' ∧ KeepBut w w' g none := by
  have HI0 := Aside0.mk hI
  have HK := Aside0.mk (KeepBut.refl w g none)
  have HL := Aside0.mk hB.size
  clear hI
  have HW0 := Aside0.mk hB.size
  have HB := Aside0.mk hB
  clear hB
  have H : (if s0_3 = true then (some (s0_2, s0_0, s0_1, s0_2, s0_3)) else (some (1, s0_0, s0_1, s0_2, s0_3))) = some (r1, r2, r3, r4, r5) := h
  clear h
  by_cases c2 : s0_3 = true
  · subst c2
    have H1 : (some (s0_2, s0_0, s0_1, s0_2, true)) = some (r1, r2, r3, r4, r5) := by rw [if_pos rfl] at H; exact H
    clear H
    have H := H1
    clear H1
    simp only [Option.some.injEq, Prod.mk.injEq] at H
    obtain ⟨rfl, rfl, rfl, rfl, rfl⟩ := H
    obtain ⟨HGz3, hgz3⟩ := HI0.out
    have zae := cellS59_0 HGz3
    have zaf := cellS59_1 HGz3
    have zag := cellS59_2 HGz3
    have zah := cellS59_3 HGz3
    have zai := blk_frozen HGz3 0
    have zaj := blk_frozen HGz3 1
    have zak := blk_frozen HGz3 2
    have zal := blk_frozen HGz3 3
    clear HGz3 hgz3
    go_enter Tryd.func19, Tryd.ntmps19
    go_wp2
    go_ret
    exact ⟨by first | rfl | (simp [errW_none, errW_some] <;> rfl) | (simp [*, errW_none, errW_some] <;> rfl), by repeat (first | (with_reducible first | exact HI0.out | apply IsS59.alloc | apply IsS59.drewN | apply IsS59.drew | apply IsS59.set_0 | apply IsS59.set_1 | apply IsS59.set_2 | apply IsS59.set_3) | exact HI0.out), by repeat (first | (with_reducible first | exact HB.out | apply below_alloc | apply pw_below_drewN | apply below_drew1 | refine below_set ?_ (IsS59.ge HI0.out)) | exact HB.out), by repeat (first | (with_reducible first | exact HK.out | apply KeepBut.set_ | apply keep_drewN | apply keep_drew | apply keep_alloc) | exact HK.out)⟩
  · replace c2 := Bool.eq_false_iff.mpr c2
    subst c2
    have H1 : (some (1, s0_0, s0_1, s0_2, false)) = some (r1, r2, r3, r4, r5) := by rw [if_neg (show ¬ (false = true) by decide)] at H; exact H
    clear H
    have H := H1
    clear H1
    simp only [Option.some.injEq, Prod.mk.injEq] at H
    obtain ⟨rfl, rfl, rfl, rfl, rfl⟩ := H
    obtain ⟨HGz4, hgz4⟩ := HI0.out
    have zam := cellS59_0 HGz4
    have zan := cellS59_1 HGz4
    have zao := cellS59_2 HGz4
    have zap := cellS59_3 HGz4
    have zaq := blk_frozen HGz4 0
    have zar := blk_frozen HGz4 1
    have zas := blk_frozen HGz4 2
    have zat := blk_frozen HGz4 3
    clear HGz4 hgz4
    go_enter Tryd.func19, Tryd.ntmps19
    go_wp2
    go_ret
    exact ⟨by first | rfl | (simp [errW_none, errW_some] <;> rfl) | (simp [*, errW_none, errW_some] <;> rfl), by repeat (first | (with_reducible first | exact HI0.out | apply IsS59.alloc | apply IsS59.drewN | apply IsS59.drew | apply IsS59.set_0 | apply IsS59.set_1 | apply IsS59.set_2 | apply IsS59.set_3) | exact HI0.out), by repeat (first | (with_reducible first | exact HB.out | apply below_alloc | apply pw_below_drewN | apply below_drew1 | refine below_set ?_ (IsS59.ge HI0.out)) | exact HB.out), by repeat (first | (with_reducible first | exact HK.out | apply KeepBut.set_ | apply keep_drewN | apply keep_drew | apply keep_alloc) | exact HK.out)⟩

end Go.Proofs.YtacjpkfpniolmaaDoor.EFrameTakes
