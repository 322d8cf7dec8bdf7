-- Written by this session's own program (wip/tools/ext.py) for this claim; Lean checks it.
import Derived.Test.YtccekjebfafgcaaDoorEShelfApartx0
import Derived.Test.YtccekjebfafgcaaDoorEShelfApartx2
import Derived.Test.YtccekjebfafgcaaDoorEShelfApartx7
import Derived.Test.YtccekjebfafgcaaDoorEShelfApartx8
namespace Go.Proofs.YtccekjebfafgcaaDoor.EShelfApart
open Go.RowKit Go.Proofs.YtccekjebfafgcaaDoorW.PrintWords Go.Proofs.YtccekjebfafgcaaDoorW.PrintLast Go.Proofs.YtccekjebfafgcaaDoorW.PrintMore
attribute [local go_sem] M.run_leq M.run_gtr M.run_geq max2_int min2_int max_two min_two max_three min_three max_four min_four   -- for this text's walks alone
set_option linter.unusedVariables false
set_option linter.unusedSimpArgs false

/-! ### pleachref05_With: function 46 -/
theorem pleachref05_With.info9 : (Tryd.prog.info? 9).map (fun i => (i.zero, i.size, i.bytes)) = some (some (.string ⟨#[]⟩), 1, 16) := by kernel_rfl
def pleachref05_With.f (l0 : List ByteArray) (a1 : ByteArray) : Option (List ByteArray) := (pleachref05_In.f l0 a1).bind fun t165 => (if t165 = true then (some l0) else ((pleachref05_Less.f l0 a1).bind fun t166 => ((some (([] : List ByteArray) : List ByteArray)).bind fun y167 => (if 0 ≤ t166 then (if t166 ≤ (l0.length : Int) then (if y167.length + (l0.take (t166 : Int).toNat).length < 8796093022208 then ((some (y167 ++ (l0.take (t166 : Int).toNat) : List ByteArray)).bind fun y171 => ((some (([a1] : List ByteArray) : List ByteArray)).bind fun y174 => (if y171.length + y174.length < 8796093022208 then ((some (y171 ++ y174 : List ByteArray)).bind fun y177 => (if y177.length + (l0.drop (t166 : Int).toNat).length < 8796093022208 then (some (y177 ++ (l0.drop (t166 : Int).toNat))) else (none))) else (none)))) else (none)) else (none)) else (none)))))
def pleachref05_With.T4 : Bool × List (List Nat × List Nat) := (true, [([], []), ([], []), ([], []), ([1, 2], [1, 2]), ([0, 3], [0, 3]), ([], []), ([5], [5]), ([4, 6, 4], [4, 6]), ([], []), ([], []), ([8, 9], [8, 9]), ([7, 10, 7], [7, 10]), ([11, 11, 0, 1, 2, 3, 4, 5, 6, 7, 8, 9, 10, 11], [11])])
def pleachref05_With.B4 : List Nat := [0, 0, 0, 6, 15, 0, 32, 127, 0, 0, 768, 2047, 4095]
theorem pleachref05_With.tab4 : rtab .any (opsOf Tryd.f46 4) = pleachref05_With.T4 := by kernel_rfl
theorem pleachref05_With.bits4 : waitsOk pleachref05_With.T4.2 pleachref05_With.B4 = true := by kernel_rfl
set_option maxHeartbeats 8000000 in
set_option maxRecDepth 100000 in
theorem pleachref05_With.both (A0 : Option Addr) (c0 : Nat) (l0 : List ByteArray) (a1 : ByteArray) (r : List ByteArray) (w : World) (hr0 : Kd.C Kd.string w A0 l0.length l0) (hc0 : l0.length ≤ c0) (h : pleachref05_With.f l0 a1 = some r) :
    Calls Tryd.prog 46 #[.slice A0 l0.length c0, .string a1] w fun e w' => ∃ v0_ : Value, e = .returned (v0_) ∧ (M.Seen Kd.string w' v0_ r ∧ ((v0_ = .slice A0 l0.length c0 ∧ r = l0) ∨ Kd.R Kd.string 9 w' w.heap.size (fun _ => True) v0_ r)) ∧ Below w.heap.size w w' := by
  have HR0 := Aside0.mk hr0
  have HC0 := Aside0.mk hc0
  clear hr0 hc0
  have HB := Aside0.mk (Below.refl w.heap.size w)
  have H : ((pleachref05_In.f l0 a1).bind fun t165 => (if t165 = true then (some l0) else ((pleachref05_Less.f l0 a1).bind fun t166 => ((some (([] : List ByteArray) : List ByteArray)).bind fun y167 => (if 0 ≤ t166 then (if t166 ≤ (l0.length : Int) then (if y167.length + (l0.take (t166 : Int).toNat).length < 8796093022208 then ((some (y167 ++ (l0.take (t166 : Int).toNat) : List ByteArray)).bind fun y171 => ((some (([a1] : List ByteArray) : List ByteArray)).bind fun y174 => (if y171.length + y174.length < 8796093022208 then ((some (y171 ++ y174 : List ByteArray)).bind fun y177 => (if y177.length + (l0.drop (t166 : Int).toNat).length < 8796093022208 then (some (y177 ++ (l0.drop (t166 : Int).toNat))) else (none))) else (none)))) else (none)) else (none)) else (none)))))) = some r := h
  clear h
  replace H := Option.bind_eq_some_iff.mp H
  obtain ⟨t165, A30, H⟩ := H
  replace H : (if t165 = true then (some l0) else ((pleachref05_Less.f l0 a1).bind fun t166 => ((some (([] : List ByteArray) : List ByteArray)).bind fun y167 => (if 0 ≤ t166 then (if t166 ≤ (l0.length : Int) then (if y167.length + (l0.take (t166 : Int).toNat).length < 8796093022208 then ((some (y167 ++ (l0.take (t166 : Int).toNat) : List ByteArray)).bind fun y171 => ((some (([a1] : List ByteArray) : List ByteArray)).bind fun y174 => (if y171.length + y174.length < 8796093022208 then ((some (y171 ++ y174 : List ByteArray)).bind fun y177 => (if y177.length + (l0.drop (t166 : Int).toNat).length < 8796093022208 then (some (y177 ++ (l0.drop (t166 : Int).toNat))) else (none))) else (none)))) else (none)) else (none)) else (none))))) = some r := H
  have A3 := Aside0.mk A30
  clear A30
  by_cases c4 : t165 = true
  · subst c4
    have H1 : (some l0) = some r := by rw [if_pos rfl] at H; exact H
    clear H
    have H := H1
    clear H1
    obtain rfl := Option.some.inj H
    go_enter Tryd.func46, Tryd.ntmps46
    go_wp2_with (first | ((with_reducible refine gate_callee (f := 52) rfl ?_); refine M.goes (some 8) Tryd.func52 #[.slice A0 l0.length c0, .string a1] rfl ?_; (with_reducible refine (pleachref05_In.calls _ _ l0 a1 true _ ?side1 ?side2 A3.out).mono ?_); (case side1 => repeat (first | exact HR0.out | (with_reducible refine Kd.C_alloc ?_ _) | (with_reducible refine Kd.C_drewN ?_ _) | (with_reducible refine Kd.C_drew ?_))); (case side2 => exact HC0.out); rintro e w' ⟨rfl, ⟨nd, rfl⟩⟩; refine ⟨_, rfl, ?_⟩))
    go_ret
    exact ⟨_, rfl, ⟨⟨A0, c0, rfl, HC0.out, by (with_reducible repeat (first | apply Kd.C_alloc | apply Kd.C_drewN | apply Kd.C_drew)); exact Kd.C_below HR0.out HB.out⟩, .inl (by first | exact ⟨rfl, rfl⟩ | rfl)⟩, M.up HB⟩
  · replace c4 := Bool.eq_false_iff.mpr c4
    subst c4
    have H1 : ((pleachref05_Less.f l0 a1).bind fun t166 => ((some (([] : List ByteArray) : List ByteArray)).bind fun y167 => (if 0 ≤ t166 then (if t166 ≤ (l0.length : Int) then (if y167.length + (l0.take (t166 : Int).toNat).length < 8796093022208 then ((some (y167 ++ (l0.take (t166 : Int).toNat) : List ByteArray)).bind fun y171 => ((some (([a1] : List ByteArray) : List ByteArray)).bind fun y174 => (if y171.length + y174.length < 8796093022208 then ((some (y171 ++ y174 : List ByteArray)).bind fun y177 => (if y177.length + (l0.drop (t166 : Int).toNat).length < 8796093022208 then (some (y177 ++ (l0.drop (t166 : Int).toNat))) else (none))) else (none)))) else (none)) else (none)) else (none)))) = some r := by rw [if_neg (show ¬ (false = true) by decide)] at H; exact H
    clear H
    have H := H1
    clear H1
    replace H := Option.bind_eq_some_iff.mp H
    obtain ⟨t166, A50, H⟩ := H
    replace H : ((some (([] : List ByteArray) : List ByteArray)).bind fun y167 => (if 0 ≤ t166 then (if t166 ≤ (l0.length : Int) then (if y167.length + (l0.take (t166 : Int).toNat).length < 8796093022208 then ((some (y167 ++ (l0.take (t166 : Int).toNat) : List ByteArray)).bind fun y171 => ((some (([a1] : List ByteArray) : List ByteArray)).bind fun y174 => (if y171.length + y174.length < 8796093022208 then ((some (y171 ++ y174 : List ByteArray)).bind fun y177 => (if y177.length + (l0.drop (t166 : Int).toNat).length < 8796093022208 then (some (y177 ++ (l0.drop (t166 : Int).toNat))) else (none))) else (none)))) else (none)) else (none)) else (none))) = some r := H
    have A5 := Aside0.mk A50
    clear A50
    obtain ⟨y167, hy167⟩ : ∃ y_ : List ByteArray, y_ = (([] : List ByteArray)) := ⟨_, rfl⟩
    replace H : (if 0 ≤ t166 then (if t166 ≤ (l0.length : Int) then (if y167.length + (l0.take (t166 : Int).toNat).length < 8796093022208 then ((some (y167 ++ (l0.take (t166 : Int).toNat) : List ByteArray)).bind fun y171 => ((some (([a1] : List ByteArray) : List ByteArray)).bind fun y174 => (if y171.length + y174.length < 8796093022208 then ((some (y171 ++ y174 : List ByteArray)).bind fun y177 => (if y177.length + (l0.drop (t166 : Int).toNat).length < 8796093022208 then (some (y177 ++ (l0.drop (t166 : Int).toNat))) else (none))) else (none)))) else (none)) else (none)) else (none)) = some r := by first | (rw [hy167]; with_reducible exact H) | (have H2_ := (Option.bind_some _ _).symm.trans H; rw [hy167]; with_reducible exact H2_) | (have H2_ := (Option.bind_some _ _).symm.trans H; with_reducible exact H2_) | with_reducible exact H | (rw [hy167]; exact H) | exact H
    have Ny167 := Aside0.mk hy167
    clear hy167
    by_cases c6 : 0 ≤ t166
    · rw [if_pos c6] at H
      have c6b0 := eq_true c6
      have c6b1 : decide (0 ≤ t166) = true := decide_eq_true c6
      clear c6
      by_cases c7 : t166 ≤ (l0.length : Int)
      · rw [if_pos c7] at H
        have c7b0 := eq_true c7
        have c7b1 : decide (t166 ≤ (l0.length : Int)) = true := decide_eq_true c7
        clear c7
        by_cases c8 : y167.length + (l0.take (t166 : Int).toNat).length < 8796093022208
        · rw [if_pos c8] at H
          have LMc8 := Aside0.mk c8
          clear c8
          obtain ⟨y171, hy171⟩ : ∃ y_ : List ByteArray, y_ = (y167 ++ (l0.take (t166 : Int).toNat)) := ⟨_, rfl⟩
          replace H : ((some (([a1] : List ByteArray) : List ByteArray)).bind fun y174 => (if y171.length + y174.length < 8796093022208 then ((some (y171 ++ y174 : List ByteArray)).bind fun y177 => (if y177.length + (l0.drop (t166 : Int).toNat).length < 8796093022208 then (some (y177 ++ (l0.drop (t166 : Int).toNat))) else (none))) else (none))) = some r := by first | (rw [hy171]; with_reducible exact H) | (have H2_ := (Option.bind_some _ _).symm.trans H; rw [hy171]; with_reducible exact H2_) | (have H2_ := (Option.bind_some _ _).symm.trans H; with_reducible exact H2_) | with_reducible exact H | (rw [hy171]; exact H) | exact H
          have Ny171 := Aside0.mk hy171
          clear hy171
          obtain ⟨y174, hy174⟩ : ∃ y_ : List ByteArray, y_ = (([a1] : List ByteArray)) := ⟨_, rfl⟩
          replace H : (if y171.length + y174.length < 8796093022208 then ((some (y171 ++ y174 : List ByteArray)).bind fun y177 => (if y177.length + (l0.drop (t166 : Int).toNat).length < 8796093022208 then (some (y177 ++ (l0.drop (t166 : Int).toNat))) else (none))) else (none)) = some r := by first | (rw [hy174]; with_reducible exact H) | (have H2_ := (Option.bind_some _ _).symm.trans H; rw [hy174]; with_reducible exact H2_) | (have H2_ := (Option.bind_some _ _).symm.trans H; with_reducible exact H2_) | with_reducible exact H | (rw [hy174]; exact H) | exact H
          have Ny174 := Aside0.mk hy174
          clear hy174
          by_cases c9 : y171.length + y174.length < 8796093022208
          · rw [if_pos c9] at H
            have LMc9 := Aside0.mk c9
            clear c9
            obtain ⟨y177, hy177⟩ : ∃ y_ : List ByteArray, y_ = (y171 ++ y174) := ⟨_, rfl⟩
            replace H : (if y177.length + (l0.drop (t166 : Int).toNat).length < 8796093022208 then (some (y177 ++ (l0.drop (t166 : Int).toNat))) else (none)) = some r := by first | (rw [hy177]; with_reducible exact H) | (have H2_ := (Option.bind_some _ _).symm.trans H; rw [hy177]; with_reducible exact H2_) | (have H2_ := (Option.bind_some _ _).symm.trans H; with_reducible exact H2_) | with_reducible exact H | (rw [hy177]; exact H) | exact H
            have Ny177 := Aside0.mk hy177
            clear hy177
            have c10b0 := eq_true (of_decide_eq_true (by first | (with_reducible assumption) | assumption) : 0 ≤ t166)
            have c11b0 := eq_true (of_decide_eq_true (by first | (with_reducible assumption) | assumption) : t166 ≤ (l0.length : Int))
            by_cases c12 : y177.length + (l0.drop (t166 : Int).toNat).length < 8796093022208
            · rw [if_pos c12] at H
              have LMc12 := Aside0.mk c12
              clear c12
              obtain ⟨y181, hy181⟩ : ∃ y_ : List ByteArray, y_ = (y177 ++ (l0.drop (t166 : Int).toNat)) := ⟨_, rfl⟩
              replace H : (some y181) = some r := by first | (rw [hy181]; with_reducible exact H) | (have H2_ := (Option.bind_some _ _).symm.trans H; rw [hy181]; with_reducible exact H2_) | (have H2_ := (Option.bind_some _ _).symm.trans H; with_reducible exact H2_) | with_reducible exact H | (rw [hy181]; exact H) | exact H
              have Ny181 := Aside0.mk hy181
              clear hy181
              obtain rfl := Option.some.inj H
              go_enter Tryd.func46, Tryd.ntmps46
              try go_wp2_with (first | ((with_reducible refine gate_callee (f := 52) rfl ?_); refine M.goes (some 8) Tryd.func52 #[.slice A0 l0.length c0, .string a1] rfl ?_; (with_reducible refine (pleachref05_In.calls _ _ l0 a1 false _ ?side1 ?side2 A3.out).mono ?_); (case side1 => repeat (first | exact HR0.out | (with_reducible refine Kd.C_alloc ?_ _) | (with_reducible refine Kd.C_drewN ?_ _) | (with_reducible refine Kd.C_drew ?_))); (case side2 => exact HC0.out); rintro e w' ⟨rfl, ⟨nd, rfl⟩⟩; refine ⟨_, rfl, ?_⟩) | ((with_reducible refine gate_callee (f := 53) rfl ?_); refine M.goes (some 12) Tryd.func53 #[.slice A0 l0.length c0, .string a1] rfl ?_; (with_reducible refine (pleachref05_Less.calls _ _ l0 a1 t166 _ ?side1 ?side2 A5.out).mono ?_); (case side1 => repeat (first | exact HR0.out | (with_reducible refine Kd.C_alloc ?_ _) | (with_reducible refine Kd.C_drewN ?_ _) | (with_reducible refine Kd.C_drew ?_))); (case side2 => exact HC0.out); rintro e w' ⟨rfl, ⟨nd2, rfl⟩⟩; refine ⟨_, rfl, ?_⟩))
              have n0_ := Aside0.mk (below_drew1 (pw_below_drewN HB.out (nd + nd2)))
              clear HB
              have HB := n0_
              clear n0_
              obtain ⟨i014, hi014, _, hsz14, _⟩ := info_parts pleachref05_With.info9
              obtain ⟨hcut14, hA14, hC14⟩ := print_take_of (P := Tryd.prog) Value.string (⟨#[]⟩ : ByteArray) 22 9 .i64 Tryd.underlying22 hi014 hsz14 A0 c0 l0 t166 (of_decide_eq_true (by first | (with_reducible assumption) | assumption)) (of_decide_eq_true (by first | (with_reducible assumption) | assumption)) HC0.out
              have HR170 := Aside0.mk (Kd.C_of_reads (h1 := fun _ => rfl) (hA14 _ (Kd.reads_of_C HR0.out)))
              have HC170 := Aside0.mk hC14
              clear hA14 hC14 hi014 hsz14
              obtain ⟨i015, hi015, _, hsz15, _⟩ := info_parts pleachref05_With.info9
              obtain ⟨A15, hcut15, hA15, hC15⟩ := print_drop_of (P := Tryd.prog) Value.string (⟨#[]⟩ : ByteArray) 22 9 .i64 Tryd.underlying22 hi015 hsz15 A0 c0 l0 t166 (of_decide_eq_true (by first | (with_reducible assumption) | assumption)) (of_decide_eq_true (by first | (with_reducible assumption) | assumption)) HC0.out
              have HR180 := Aside0.mk (Kd.C_of_reads (h1 := fun _ => rfl) (hA15 _ (Kd.reads_of_C HR0.out)))
              have HC180 := Aside0.mk hC15
              clear hA15 hC15 hi015 hsz15
              refine start_ (n := 13) (S := fun w' => True) (ds := []) (M.tf [0, 13]) (by kernel_rfl) rfl rfl trivial (fun hHeld => ?_); refine with_tabW pleachref05_With.tab4 pleachref05_With.bits4 (fun HT_ HW_ => ?_)
              generalize (w.drewN (nd + nd2)).drew = w13 at HB HR170 HR180 hHeld ⊢
              refine pure_ (i := 1) (N := some 14) (v := ?_) (a' := ?_) (M.tf [0, 1, 1, 11]) rfl rfl (any_of HT_.out (by kernel_rfl)) (fun _ _ _ h => h) (Or.inl ⟨by rfl, ?_⟩) ?_ ?_
              rotate_left
              · intro w'
                go_simp
                with_reducible rfl
              rotate_left
              · simp only [Act.put, List.setIfInBounds_toArray, List.set_cons_zero, List.set_cons_succ, i64_w, i32_w]
                rfl
              refine pure_ (i := 2) (N := some 15) (v := ?_) (a' := ?_) (M.tf [0, 1, 2, 10]) rfl rfl (any_of HT_.out (by kernel_rfl)) (fun _ _ _ h => h) (Or.inl ⟨by rfl, ?_⟩) ?_ ?_
              rotate_left
              · intro w'
                go_simp
                with_reducible rfl
              rotate_left
              · simp only [Act.put, List.setIfInBounds_toArray, List.set_cons_zero, List.set_cons_succ, i64_w, i32_w]
                rfl
              refine pure_ (i := 3) (N := some 16) (v := ?_) (a' := ?_) (M.tf [0, 1, 3, 9]) rfl rfl (any_of HT_.out (by kernel_rfl)) (fun _ _ _ h => h) (Or.inl ⟨by rfl, ?_⟩) ?_ ?_
              rotate_left
              · intro w'
                go_simp
                with_reducible rfl
              rotate_left
              · simp only [Act.put, List.setIfInBounds_toArray, List.set_cons_zero, List.set_cons_succ, i64_w, i32_w]
                rfl
              refine pure_ (i := 5) (N := some 18) (v := ?_) (a' := ?_) (M.tf [0, 1, 3, 1, 1, 7]) rfl rfl (any_of HT_.out (by kernel_rfl)) (fun _ _ _ h => h) (Or.inl ⟨by rfl, ?_⟩) ?_ ?_
              rotate_left
              · intro w'
                go_simp
                with_reducible rfl
              rotate_left
              · simp only [Act.put, List.setIfInBounds_toArray, List.set_cons_zero, List.set_cons_succ, i64_w, i32_w]
                rfl
              refine pure_ (i := 8) (N := some 21) (v := ?_) (a' := ?_) (M.tf [0, 1, 3, 1, 1, 2, 1, 4]) rfl rfl (any_of HT_.out (by kernel_rfl)) (fun _ _ _ h => h) (Or.inl ⟨by rfl, ?_⟩) ?_ ?_
              rotate_left
              · intro w'
                go_simp
                with_reducible rfl
              rotate_left
              · simp only [Act.put, List.setIfInBounds_toArray, List.set_cons_zero, List.set_cons_succ, i64_w, i32_w]
                rfl
              refine pure_ (i := 9) (N := some 22) (v := ?_) (a' := ?_) (M.tf [0, 1, 3, 1, 1, 2, 2, 3]) rfl rfl (any_of HT_.out (by kernel_rfl)) (fun _ _ _ h => h) (Or.inl ⟨by rfl, ?_⟩) ?_ ?_
              rotate_left
              · intro w'
                go_simp
                with_reducible rfl
              rotate_left
              · simp only [Act.put, List.setIfInBounds_toArray, List.set_cons_zero, List.set_cons_succ, i64_w, i32_w]
                rfl
              refine pure_ (i := 10) (N := some 23) (v := ?_) (a' := ?_) (M.tf [0, 1, 3, 1, 1, 2, 3, 2]) rfl rfl (any_of HT_.out (by kernel_rfl)) (fun _ _ _ h => h) (Or.inl ⟨by rfl, ?_⟩) ?_ ?_
              rotate_left
              · intro w'
                go_simp
                with_reducible rfl
              rotate_left
              · simp only [Act.put, List.setIfInBounds_toArray, List.set_cons_zero, List.set_cons_succ, i64_w, i32_w]
                rfl
              refine join_ (σ := Value × Value × Value) 3 (M.tf [7, 1, 3, 2]) (fun s_ => [(13, s_.1), (17, s_.2.1), (19, s_.2.2)]) (fun s_ w' => (Kd.R Kd.string 9 w' w.heap.size (fun k_ => some k_ ≠ (s_.2.2 : Value).ownBlock) s_.2.1 y171) ∧ (Kd.R Kd.string 9 w' w.heap.size (fun k_ => some k_ ≠ (s_.2.1 : Value).ownBlock) s_.2.2 y174) ∧ (Below w.heap.size w w')) ?_ ?_
              rotate_left
              · intro hCont
                refine two_ (i := 0) (j := 6) (Ni := some 13) (Nj := some 19) (M.tf [4, 1, 1, 2, 3, 2]) (M.tf [0, 1, 3, 1, 2, 1, 3, 2]) rfl rfl rfl rfl (two_of HT_.out (by kernel_rfl)) (by decide) (by decide) (fun K hK => ?_) (fun K hK => ?_)
                · skip
                  refine Kd.R_lit_step Kd.string _ 9 ?hg (N := 13) ?hd (xs := ([] : List ByteArray)) (inner := []) (ok := fun _ => True) (okp := fun _ => True) ?hr ?hp (fun _ hk => hk) trivial (Below.refl _ _) (Nat.le_refl _) (by simp) ?_; (case hd => rfl); (case hg => rfl); (case hr => first | (go_simp; done) | (go_simp; rfl)); (case hp => exact (Reps.none _ _))
                  intro v168 w16 ho17 hb hg_ hnew_
                  clear hg_ hnew_
                  (first | rw [← Ny167.out] at ho17 | (simp only [Int.reduceToNat] at ho17; rw [← Ny167.out] at ho17))
                  have n0_ := Aside0.mk (Kd.R_lower ho17 (below_size (M.up HB)))
                  have n1_ := M.upS HB hb
                  clear HB
                  have HO169 := n0_
                  have HB := n1_
                  clear n0_ n1_
                  clear hb ho17
                  refine hK.out _ _ trivial (fun hHeld => ?_)
                  clear hK K
                  refine norm_ (a' := ?_) ?_ ?_
                  rotate_left
                  · show Act.put _ (some 13) _ = _
                    simp only [Act.put, List.setIfInBounds_toArray, List.set_cons_zero, List.set_cons_succ, i64_w, i32_w]
                    rfl
                  refine two_ (i := 4) (j := 6) (Ni := some 17) (Nj := some 19) (M.tf [6, 2, 3, 2]) (M.tf [4, 1, 2, 1, 3, 2]) rfl rfl rfl rfl (two_of HT_.out (by kernel_rfl)) (by decide) (by decide) (fun K hK => ?_) (fun K hK => ?_)
                  · skip
                    refine Kd.R_append_rows_step Kd.string (w0 := w) w.heap.size (by rfl) (.tmp 13) (.tmp 16) 22 9 (.string ⟨#[]⟩) 16 rfl Tryd.underlying22 pleachref05_With.info9 rfl (by decide) (by omega) v168 y167 (l0.take (t166 : Int).toNat) _ _ _ (fun _ => True) (fun _ => False) rfl rfl ?aO ?aR (fun _ _ h => h) (fun _ h => h.elim) ?aF ?aB ?aS ?aL ?_
                    (case aR => exact M.reads_n (Kd.C_below HR170.out HB.out) (by rw [List.length_take]; have h_ : (t166 : Int) ≤ (l0.length : Int) := of_decide_eq_true (by first | (with_reducible assumption) | assumption); omega))
                    (case aB => exact (M.up HB))
                    (case aF => exact (fun _ _ => trivial))
                    (case aO => exact (M.ro HO169))
                    (case aS => exact (below_size (M.up HB)))
                    (case aL => have := LMc8.out; have hlx_ := (show (l0.take (t166 : Int).toNat).length = t166.toNat from (by rw [List.length_take]; have h_ : (t166 : Int) ≤ (l0.length : Int) := of_decide_eq_true (by first | (with_reducible assumption) | assumption); omega)); omega)
                    intro v172 w18 ho hb hg hat
                    rw [← Ny171.out] at ho
                    have n0_ := Aside0.mk (hb)
                    have n1_ := Aside0.mk (ho)
                    clear HB HO169
                    have HB := n0_
                    have HO173 := n1_
                    clear n0_ n1_
                    clear ho hb hg hat
                    refine hK.out _ _ trivial (fun hHeld => ?_)
                    clear hK K
                    refine norm_ (a' := ?_) ?_ ?_
                    rotate_left
                    · show Act.put _ (some 17) _ = _
                      simp only [Act.put, List.setIfInBounds_toArray, List.set_cons_zero, List.set_cons_succ, i64_w, i32_w]
                      rfl
                    refine one_ (i := 6) (N := some 19) (M.tf [7, 1, 3, 2]) rfl rfl (one_of HT_.out (by kernel_rfl)) (by decide) (fun K hK => ?_)
                    refine Kd.R_lit_step Kd.string _ 9 ?hg (N := 19) ?hd (xs := ([a1] : List ByteArray)) (inner := [.string a1]) (ok := fun _ => True) (okp := fun _ => True) ?hr ?hp (fun _ hk => hk) trivial (Below.refl _ _) (Nat.le_refl _) (by simp) ?_; (case hd => rfl); (case hg => rfl); (case hr => first | (go_simp; done) | (go_simp; rfl)); (case hp => exact (Reps.one (show Kd.M Kd.string _ _ _ a1 [.string a1] from rfl) (Reps.none _ _)))
                    intro v175 w19 ho20 hb hg_ hnew_
                    clear hg_ hnew_
                    (first | rw [← Ny174.out] at ho20 | (simp only [Int.reduceToNat] at ho20; rw [← Ny174.out] at ho20))
                    have n0_ := Aside0.mk (Kd.R_elder' (M.ro HO173) (Kd.R_base ho20) hb)
                    have n1_ := Aside0.mk (Kd.R_lower (Kd.R_new' ho20 (Kd.R_lt (M.ro HO173))) (below_size (M.up HB)))
                    have n2_ := M.upS HB hb
                    clear HO173 HB
                    have HO173 := n0_
                    have HO176 := n1_
                    have HB := n2_
                    clear n0_ n1_ n2_
                    clear hb ho20
                    refine hK.out _ _ trivial (fun hHeld => ?_)
                    clear hK K
                    refine norm_ (a' := ?_) ?_ ?_
                    rotate_left
                    · show Act.put _ (some 19) _ = _
                      simp only [Act.put, List.setIfInBounds_toArray, List.set_cons_zero, List.set_cons_succ, i64_w, i32_w]
                      rfl
                    exact norm_ (by simp only [putAll, Act.put, List.setIfInBounds_toArray, List.set_cons_zero, List.set_cons_succ]) (hCont (v168, v172, v175) _ ⟨(by (with_reducible repeat (first | apply Kd.R_alloc | apply Kd.R_drewN | apply Kd.R_drew)); exact Kd.R_mono HO173.out (fun _ hk => hk.2)), (by (with_reducible repeat (first | apply Kd.R_alloc | apply Kd.R_drewN | apply Kd.R_drew)); exact Kd.R_mono HO176.out (fun _ hk => hk.2)), (M.up HB)⟩)
                  · skip
                    refine Kd.R_lit_step Kd.string _ 9 ?hg (N := 19) ?hd (xs := ([a1] : List ByteArray)) (inner := [.string a1]) (ok := fun _ => True) (okp := fun _ => True) ?hr ?hp (fun _ hk => hk) trivial (Below.refl _ _) (Nat.le_refl _) (by simp) ?_; (case hd => rfl); (case hg => rfl); (case hr => first | (go_simp; done) | (go_simp; rfl)); (case hp => exact (Reps.one (show Kd.M Kd.string _ _ _ a1 [.string a1] from rfl) (Reps.none _ _)))
                    intro v175 w18 ho19 hb hg_ hnew_
                    clear hg_ hnew_
                    (first | rw [← Ny174.out] at ho19 | (simp only [Int.reduceToNat] at ho19; rw [← Ny174.out] at ho19))
                    have n0_ := Aside0.mk (Kd.R_elder' (M.ro HO169) (Kd.R_base ho19) hb)
                    have n1_ := Aside0.mk (Kd.R_lower (Kd.R_new' ho19 (Kd.R_lt (M.ro HO169))) (below_size (M.up HB)))
                    have n2_ := M.upS HB hb
                    clear HO169 HB
                    have HO169 := n0_
                    have HO176 := n1_
                    have HB := n2_
                    clear n0_ n1_ n2_
                    clear hb ho19
                    refine hK.out _ _ trivial (fun hHeld => ?_)
                    clear hK K
                    refine norm_ (a' := ?_) ?_ ?_
                    rotate_left
                    · show Act.put _ (some 19) _ = _
                      simp only [Act.put, List.setIfInBounds_toArray, List.set_cons_zero, List.set_cons_succ, i64_w, i32_w]
                      rfl
                    refine one_ (i := 4) (N := some 17) (M.tf [7, 1, 3, 2]) rfl rfl (one_of HT_.out (by kernel_rfl)) (by decide) (fun K hK => ?_)
                    refine Kd.R_append_rows_step Kd.string (w0 := w) w.heap.size (by rfl) (.tmp 13) (.tmp 16) 22 9 (.string ⟨#[]⟩) 16 rfl Tryd.underlying22 pleachref05_With.info9 rfl (by decide) (by omega) v168 y167 (l0.take (t166 : Int).toNat) _ _ _ (fun k_ => some k_ ≠ (v175 : Value).ownBlock) (fun _ => False) rfl rfl ?aO ?aR (fun _ _ h => h) (fun _ h => h.elim) ?aF ?aB ?aS ?aL ?_
                    (case aR => exact M.reads_n (Kd.C_below HR170.out HB.out) (by rw [List.length_take]; have h_ : (t166 : Int) ≤ (l0.length : Int) := of_decide_eq_true (by first | (with_reducible assumption) | assumption); omega))
                    (case aB => exact (M.up HB))
                    (case aF => exact (fun k_ hk => Kd.fresh' (Kd.R_lt (M.ro HO176)) k_ hk))
                    (case aO => exact (by (with_reducible repeat (first | apply Kd.R_alloc | apply Kd.R_drewN | apply Kd.R_drew)); exact Kd.R_mono HO169.out (fun _ hk => hk.2)))
                    (case aS => exact (below_size (M.up HB)))
                    (case aL => have := LMc8.out; have hlx_ := (show (l0.take (t166 : Int).toNat).length = t166.toNat from (by rw [List.length_take]; have h_ : (t166 : Int) ≤ (l0.length : Int) := of_decide_eq_true (by first | (with_reducible assumption) | assumption); omega)); omega)
                    intro v172 w20 ho hb hg hat
                    rw [← Ny171.out] at ho
                    have n0_ := Aside0.mk (Kd.R_after (ok := (fun _ => True)) (M.ro HO176) hg hat)
                    have n1_ := Aside0.mk (hb)
                    have n2_ := Aside0.mk (ho)
                    clear HO176 HB HO169
                    have HO176 := n0_
                    have HB := n1_
                    have HO173 := n2_
                    clear n0_ n1_ n2_
                    clear ho hb hg hat
                    refine hK.out _ _ trivial (fun hHeld => ?_)
                    clear hK K
                    refine norm_ (a' := ?_) ?_ ?_
                    rotate_left
                    · show Act.put _ (some 17) _ = _
                      simp only [Act.put, List.setIfInBounds_toArray, List.set_cons_zero, List.set_cons_succ, i64_w, i32_w]
                      rfl
                    exact norm_ (by simp only [putAll, Act.put, List.setIfInBounds_toArray, List.set_cons_zero, List.set_cons_succ]) (hCont (v168, v172, v175) _ ⟨(M.ro HO173), (by (with_reducible repeat (first | apply Kd.R_alloc | apply Kd.R_drewN | apply Kd.R_drew)); exact Kd.R_mono HO176.out (fun _ hk => hk.2)), (M.up HB)⟩)
                · skip
                  refine Kd.R_lit_step Kd.string _ 9 ?hg (N := 19) ?hd (xs := ([a1] : List ByteArray)) (inner := [.string a1]) (ok := fun _ => True) (okp := fun _ => True) ?hr ?hp (fun _ hk => hk) trivial (Below.refl _ _) (Nat.le_refl _) (by simp) ?_; (case hd => rfl); (case hg => rfl); (case hr => first | (go_simp; done) | (go_simp; rfl)); (case hp => exact (Reps.one (show Kd.M Kd.string _ _ _ a1 [.string a1] from rfl) (Reps.none _ _)))
                  intro v175 w16 ho17 hb hg_ hnew_
                  clear hg_ hnew_
                  (first | rw [← Ny174.out] at ho17 | (simp only [Int.reduceToNat] at ho17; rw [← Ny174.out] at ho17))
                  have n0_ := Aside0.mk (Kd.R_lower ho17 (below_size (M.up HB)))
                  have n1_ := M.upS HB hb
                  clear HB
                  have HO176 := n0_
                  have HB := n1_
                  clear n0_ n1_
                  clear hb ho17
                  refine hK.out _ _ trivial (fun hHeld => ?_)
                  clear hK K
                  refine norm_ (a' := ?_) ?_ ?_
                  rotate_left
                  · show Act.put _ (some 19) _ = _
                    simp only [Act.put, List.setIfInBounds_toArray, List.set_cons_zero, List.set_cons_succ, i64_w, i32_w]
                    rfl
                  refine one_ (i := 0) (N := some 13) (M.tf [4, 1, 2, 1, 3, 2]) rfl rfl (one_of HT_.out (by kernel_rfl)) (by decide) (fun K hK => ?_)
                  refine Kd.R_lit_step Kd.string _ 9 ?hg (N := 13) ?hd (xs := ([] : List ByteArray)) (inner := []) (ok := fun _ => True) (okp := fun _ => True) ?hr ?hp (fun _ hk => hk) trivial (Below.refl _ _) (Nat.le_refl _) (by simp) ?_; (case hd => rfl); (case hg => rfl); (case hr => first | (go_simp; done) | (go_simp; rfl)); (case hp => exact (Reps.none _ _))
                  intro v168 w18 ho19 hb hg_ hnew_
                  clear hg_ hnew_
                  (first | rw [← Ny167.out] at ho19 | (simp only [Int.reduceToNat] at ho19; rw [← Ny167.out] at ho19))
                  have n0_ := Aside0.mk (Kd.R_elder' (M.ro HO176) (Kd.R_base ho19) hb)
                  have n1_ := Aside0.mk (Kd.R_lower (Kd.R_new' ho19 (Kd.R_lt (M.ro HO176))) (below_size (M.up HB)))
                  have n2_ := M.upS HB hb
                  clear HO176 HB
                  have HO176 := n0_
                  have HO169 := n1_
                  have HB := n2_
                  clear n0_ n1_ n2_
                  clear hb ho19
                  refine hK.out _ _ trivial (fun hHeld => ?_)
                  clear hK K
                  refine norm_ (a' := ?_) ?_ ?_
                  rotate_left
                  · show Act.put _ (some 13) _ = _
                    simp only [Act.put, List.setIfInBounds_toArray, List.set_cons_zero, List.set_cons_succ, i64_w, i32_w]
                    rfl
                  refine one_ (i := 4) (N := some 17) (M.tf [7, 1, 3, 2]) rfl rfl (one_of HT_.out (by kernel_rfl)) (by decide) (fun K hK => ?_)
                  refine Kd.R_append_rows_step Kd.string (w0 := w) w.heap.size (by rfl) (.tmp 13) (.tmp 16) 22 9 (.string ⟨#[]⟩) 16 rfl Tryd.underlying22 pleachref05_With.info9 rfl (by decide) (by omega) v168 y167 (l0.take (t166 : Int).toNat) _ _ _ (fun k_ => some k_ ≠ (v175 : Value).ownBlock) (fun _ => False) rfl rfl ?aO ?aR (fun _ _ h => h) (fun _ h => h.elim) ?aF ?aB ?aS ?aL ?_
                  (case aR => exact M.reads_n (Kd.C_below HR170.out HB.out) (by rw [List.length_take]; have h_ : (t166 : Int) ≤ (l0.length : Int) := of_decide_eq_true (by first | (with_reducible assumption) | assumption); omega))
                  (case aB => exact (M.up HB))
                  (case aF => exact (fun k_ hk => Kd.fresh' (Kd.R_lt (M.ro HO176)) k_ hk))
                  (case aO => exact (by (with_reducible repeat (first | apply Kd.R_alloc | apply Kd.R_drewN | apply Kd.R_drew)); exact Kd.R_mono HO169.out (fun _ hk => hk.2)))
                  (case aS => exact (below_size (M.up HB)))
                  (case aL => have := LMc8.out; have hlx_ := (show (l0.take (t166 : Int).toNat).length = t166.toNat from (by rw [List.length_take]; have h_ : (t166 : Int) ≤ (l0.length : Int) := of_decide_eq_true (by first | (with_reducible assumption) | assumption); omega)); omega)
                  intro v172 w20 ho hb hg hat
                  rw [← Ny171.out] at ho
                  have n0_ := Aside0.mk (Kd.R_after (ok := (fun _ => True)) (M.ro HO176) hg hat)
                  have n1_ := Aside0.mk (hb)
                  have n2_ := Aside0.mk (ho)
                  clear HO176 HB HO169
                  have HO176 := n0_
                  have HB := n1_
                  have HO173 := n2_
                  clear n0_ n1_ n2_
                  clear ho hb hg hat
                  refine hK.out _ _ trivial (fun hHeld => ?_)
                  clear hK K
                  refine norm_ (a' := ?_) ?_ ?_
                  rotate_left
                  · show Act.put _ (some 17) _ = _
                    simp only [Act.put, List.setIfInBounds_toArray, List.set_cons_zero, List.set_cons_succ, i64_w, i32_w]
                    rfl
                  exact norm_ (by simp only [putAll, Act.put, List.setIfInBounds_toArray, List.set_cons_zero, List.set_cons_succ]) (hCont (v168, v172, v175) _ ⟨(M.ro HO173), (by (with_reducible repeat (first | apply Kd.R_alloc | apply Kd.R_drewN | apply Kd.R_drew)); exact Kd.R_mono HO176.out (fun _ hk => hk.2)), (M.up HB)⟩)
              rintro ⟨v168, v172, v175⟩ w21 ⟨h0_, h1_, h2_⟩
              have n0_ : Aside0 (Kd.R Kd.string 9 w21 w.heap.size (fun k_ => some k_ ≠ (v175 : Value).ownBlock) v172 y171) := ⟨h0_⟩
              have n1_ : Aside0 (Kd.R Kd.string 9 w21 w.heap.size (fun k_ => some k_ ≠ (v172 : Value).ownBlock) v175 y174) := ⟨h1_⟩
              have n2_ : Aside0 (Below w.heap.size w w21) := ⟨h2_⟩
              clear HB
              clear h0_ h1_ h2_
              have HO173 := n0_
              have HO176 := n1_
              have HB := n2_
              clear n0_ n1_ n2_
              have hHeld := trivial
              obtain ⟨Ao23, co23, eo23⟩ := Kd.R_slice HO176.out
              (first | subst eo23 | (injection eo23 with f1_ f2_ f3_; have f4_ := f1_.symm; have f5_ := f3_.symm; clear f1_ f2_ f3_; subst f4_; subst f5_))
              refine norm_ (a' := ?_) ?_ ?_
              rotate_left
              · simp only [putAll, Act.put, List.setIfInBounds_toArray, List.set_cons_zero, List.set_cons_succ]
                rfl
              refine one_ (i := 7) (N := some 20) (M.tf [11, 2]) rfl rfl (one_of HT_.out (by kernel_rfl)) (by decide) (fun K hK => ?_)
              refine Kd.R_append_rows_step Kd.string (w0 := w) w.heap.size (by rfl) (.tmp 17) (.tmp 19) 22 9 (.string ⟨#[]⟩) 16 rfl Tryd.underlying22 pleachref05_With.info9 rfl (by decide) (by omega) v172 y171 y174 _ _ _ (fun k_ => some k_ ≠ (.slice Ao23 y174.length co23 : Value).ownBlock) (fun _ => False) rfl rfl ?aO ?aR (fun _ _ h => h) (fun _ h => h.elim) ?aF ?aB ?aS ?aL ?_
              (case aR => repeat (first | exact (Kd.R_reads' HO176.out).2.2 | (with_reducible refine Kd.C_alloc ?_ _) | (with_reducible refine Kd.C_drewN ?_ _) | (with_reducible refine Kd.C_drew ?_)))
              (case aB => exact (M.up HB))
              (case aF => exact (fun k_ hk => Kd.fresh' (Kd.R_lt (M.ro HO176)) k_ hk))
              (case aO => exact (M.ro HO173))
              (case aS => exact (below_size (M.up HB)))
              (case aL => have := LMc9.out; omega)
              intro v178 w22 ho hb hg hat
              rw [← Ny177.out] at ho
              have n0_ := Aside0.mk (Kd.R_after (ok := (fun _ => True)) (by (with_reducible repeat (first | apply Kd.R_alloc | apply Kd.R_drewN | apply Kd.R_drew)); exact Kd.R_mono HO176.out (fun _ hk => ⟨trivial, hk⟩)) hg hat)
              have n1_ := Aside0.mk (hb)
              have n2_ := Aside0.mk (ho)
              clear HO176 HB HO173
              have HO176 := n0_
              have HB := n1_
              have HO179 := n2_
              clear n0_ n1_ n2_
              clear ho hb hg hat
              refine hK.out _ _ trivial (fun hHeld => ?_)
              clear hK K
              refine norm_ (a' := ?_) ?_ ?_
              rotate_left
              · show Act.put _ (some 20) _ = _
                simp only [Act.put, List.setIfInBounds_toArray, List.set_cons_zero, List.set_cons_succ, i64_w, i32_w]
                rfl
              refine one_ (i := 11) (N := some 24) (M.tf [12, 1]) rfl rfl (one_of HT_.out (by kernel_rfl)) (by decide) (fun K hK => ?_)
              refine Kd.R_append_rows_step Kd.string (w0 := w) w.heap.size (by rfl) (.tmp 20) (.tmp 23) 22 9 (.string ⟨#[]⟩) 16 rfl Tryd.underlying22 pleachref05_With.info9 rfl (by decide) (by omega) v178 y177 (l0.drop (t166 : Int).toNat) _ _ _ (fun k_ => some k_ ≠ (.slice Ao23 y174.length co23 : Value).ownBlock) (fun _ => False) rfl rfl ?aO ?aR (fun _ _ h => h) (fun _ h => h.elim) ?aF ?aB ?aS ?aL ?_
              (case aR => exact M.reads_n (Kd.C_below HR180.out HB.out) List.length_drop)
              (case aB => exact (M.up HB))
              (case aF => exact (fun k_ hk => Kd.fresh' (Kd.R_lt (M.ro HO176)) k_ hk))
              (case aO => exact (M.ro HO179))
              (case aS => exact (below_size (M.up HB)))
              (case aL => have := LMc12.out; have hlx_ := (show (l0.drop (t166 : Int).toNat).length = (l0.length - t166.toNat) from List.length_drop); omega)
              intro v182 w24 ho hb hg hat
              rw [← Ny181.out] at ho
              have n0_ := Aside0.mk (Kd.R_after (ok := (fun _ => True)) (M.ro HO176) hg hat)
              have n1_ := Aside0.mk (hb)
              have n2_ := Aside0.mk (ho)
              clear HO176 HB HO179
              have HO176 := n0_
              have HB := n1_
              have HO183 := n2_
              clear n0_ n1_ n2_
              clear ho hb hg hat
              refine hK.out _ _ trivial (fun hHeld => ?_)
              clear hK K
              refine norm_ (a' := ?_) ?_ ?_
              rotate_left
              · show Act.put _ (some 24) _ = _
                simp only [Act.put, List.setIfInBounds_toArray, List.set_cons_zero, List.set_cons_succ, i64_w, i32_w]
                rfl
              refine pure_ (i := 12) (N := some 4) (v := ?_) (a' := ?_) (M.tf [13]) rfl rfl (any_of HT_.out (by kernel_rfl)) (fun _ _ _ h => h) (Or.inl ⟨by rfl, ?_⟩) ?_ ?_
              rotate_left
              · intro w'
                go_simp
                with_reducible rfl
              rotate_left
              · simp only [Act.put, List.setIfInBounds_toArray, List.set_cons_zero, List.set_cons_succ, i64_w, i32_w]
                rfl
              refine done_ (done_of HT_.out (by kernel_rfl)) ?_
              try go_wp2
              go_ret
              exact ⟨_, by first | rfl | (simp [errW_none, errW_some] <;> rfl) | (simp [*, errW_none, errW_some] <;> rfl), ⟨M.seen_own (by (with_reducible repeat (first | apply Kd.R_alloc | apply Kd.R_drewN | apply Kd.R_drew)); exact Kd.R_mono HO183.out (fun _ hk => trivial)), .inr (by (with_reducible repeat (first | apply Kd.R_alloc | apply Kd.R_drewN | apply Kd.R_drew)); exact Kd.R_mono HO183.out (fun _ hk => trivial))⟩, M.up HB⟩
            · rw [if_neg c12] at H
              exact absurd H (by simp)
          · rw [if_neg c9] at H
            exact absurd H (by simp)
        · rw [if_neg c8] at H
          exact absurd H (by simp)
      · rw [if_neg c7] at H
        exact absurd H (by simp)
    · rw [if_neg c6] at H
      exact absurd H (by simp)
theorem pleachref05_With.calls (A0 : Option Addr) (c0 : Nat) (l0 : List ByteArray) (a1 : ByteArray) (r : List ByteArray) (w : World) (hr0 : Kd.C Kd.string w A0 l0.length l0) (hc0 : l0.length ≤ c0) (h : pleachref05_With.f l0 a1 = some r) :
    Calls Tryd.prog 46 #[.slice A0 l0.length c0, .string a1] w fun e w' => ∃ v0_ : Value, e = .returned (v0_) ∧ M.Seen Kd.string w' v0_ r ∧ Below w.heap.size w w' := by
  refine (pleachref05_With.both A0 c0 l0 a1 r w hr0 hc0 h).mono ?_
  rintro e w' ⟨v, h1, h2, h3⟩
  exact ⟨v, h1, h2.1, h3⟩
/-- With a row that is owned from B on, what comes out is one as well. -/
theorem pleachref05_With.rowed (A0 : Option Addr) (c0 : Nat) (l0 : List ByteArray) (a1 : ByteArray) (r : List ByteArray) (w : World) (B : Nat) (hR : Kd.R Kd.string 9 w B (fun _ => True) (.slice A0 l0.length c0) l0) (hB : B ≤ w.heap.size) (hc0 : l0.length ≤ c0) (h : pleachref05_With.f l0 a1 = some r) :
    Calls Tryd.prog 46 #[.slice A0 l0.length c0, .string a1] w fun e w' => ∃ v0_ : Value, e = .returned (v0_) ∧ Kd.R Kd.string 9 w' B (fun _ => True) v0_ r ∧ Below w.heap.size w w' := by
  refine (pleachref05_With.both A0 c0 l0 a1 r w (Kd.R_reads' hR).2.2 hc0 h).mono ?_
  rintro e w' ⟨v, h1, ⟨h2, h3⟩, h4⟩
  refine ⟨v, h1, ?_, h4⟩
  rcases h3 with ⟨rfl, rfl⟩ | h3
  · exact Kd.R_below hR h4
  · exact Kd.R_lower h3 hB
theorem pleachref05_With.kept {v v1 : Value} {l0 r : List ByteArray} {B : Nat} {w w' : World} (h : M.Seen Kd.string w' v r ∧ ((v = v1 ∧ r = l0) ∨ Kd.R Kd.string 9 w' w.heap.size (fun _ => True) v r)) (hB : B ≤ w.heap.size) : (v = v1 ∧ r = l0) ∨ Kd.R Kd.string 9 w' B (fun _ => True) v r :=
  h.2.imp id (fun z => Kd.R_lower z hB)

/-! ### pleachref16_Names_p: function 35 -/
def pleachref16_Names_p.l0 : Nat → List ByteArray → Int → List ByteArray → List ByteArray → ByteArray → ByteArray → Option (List ByteArray)
  | 0, _, _, _, _, _, _ => none
  | k + 1, x3, x4, zaa, zab, zac, zad => if x4 < (zab.length : Int) then (if 0 ≤ x4 then ((pleachref05_With.f x3 (rdOf ByteArray.empty zab x4)).bind fun t176 => (pleachref16_Names_p.l0 k t176 (wrap64 (x4 + 1)) zaa zab zac zad)) else (none)) else (some x3)
def pleachref16_Names_p.f (k : Nat) (l0_0 : List ByteArray) (l0_1 : List ByteArray) (a0_2 : ByteArray) (a0_3 : ByteArray) : Option (List ByteArray) := pleachref16_Names_p.l0 k ([] : List ByteArray) 0 l0_0 l0_1 a0_2 a0_3
theorem pleachref16_Names_p.mono_l : ∀ k, (∀ y0 y1 y2 y3 y4 y5, LeO (pleachref16_Names_p.l0 k y0 y1 y2 y3 y4 y5) (pleachref16_Names_p.l0 (k + 1) y0 y1 y2 y3 y4 y5))
  | 0 => fun _ _ _ _ _ _ r h => by simp [pleachref16_Names_p.l0] at h
  | k + 1 => by
    have ih0 := pleachref16_Names_p.mono_l k
    · intro y0 y1 y2 y3 y4 y5
      unfold pleachref16_Names_p.l0
      repeat' first
      | (with_reducible exact ih0 _ _ _ _ _ _)
      | (with_reducible exact LeO.refl _)
      | (with_reducible exact LeO.none _)
      | (with_reducible refine LeO.ite ?_ ?_)
      | (with_reducible refine LeO.bind ?_ (fun _ => ?_))
      | exact ih0 _ _ _ _ _ _
      | exact LeO.none _
      | refine LeO.ite ?_ ?_
      | refine LeO.bind ?_ (fun _ => ?_)
theorem pleachref16_Names_p.mono : ∀ a0 a1 a2 a3 k, LeO (pleachref16_Names_p.f k a0 a1 a2 a3) (pleachref16_Names_p.f (k + 1) a0 a1 a2 a3) := by
  intro a0 a1 a2 a3 k
  have ih0 := pleachref16_Names_p.mono_l k
  unfold pleachref16_Names_p.f
  repeat' first
      | (with_reducible exact ih0 _ _ _ _ _ _)
      | (with_reducible exact LeO.refl _)
      | (with_reducible exact LeO.none _)
      | (with_reducible refine LeO.ite ?_ ?_)
      | (with_reducible refine LeO.bind ?_ (fun _ => ?_))
      | exact ih0 _ _ _ _ _ _
      | exact LeO.none _
      | refine LeO.ite ?_ ?_
      | refine LeO.bind ?_ (fun _ => ?_)
set_option maxHeartbeats 8000000 in
set_option maxRecDepth 100000 in
theorem pleachref16_Names_p.calls (k : Nat) (A0_0 : Option Addr) (c0_0 : Nat) (l0_0 : List ByteArray) (A0_1 : Option Addr) (c0_1 : Nat) (l0_1 : List ByteArray) (a0_2 : ByteArray) (a0_3 : ByteArray) (r : List ByteArray) (w : World) (hr0_0 : Kd.C Kd.string w A0_0 l0_0.length l0_0) (hc0_0 : l0_0.length ≤ c0_0) (hr0_1 : Kd.C Kd.string w A0_1 l0_1.length l0_1) (hc0_1 : l0_1.length ≤ c0_1) (h : pleachref16_Names_p.f k l0_0 l0_1 a0_2 a0_3 = some r) :
    Calls Tryd.prog 35 #[.agg #[.slice A0_0 l0_0.length c0_0, .slice A0_1 l0_1.length c0_1, .string a0_2, .string a0_3]] w fun e w' => ∃ v0_ : Value, e = .returned (v0_) ∧ Kd.R Kd.string 9 w' w.heap.size (fun _ => True) v0_ r ∧ Below w.heap.size w w' := by
  have hu41 := Tryd.underlying41
  have HR0_0 := Aside0.mk hr0_0
  have HC0_0 := Aside0.mk hc0_0
  clear hr0_0 hc0_0
  have HR0_1 := Aside0.mk hr0_1
  have HC0_1 := Aside0.mk hc0_1
  clear hr0_1 hc0_1
  have HB := Aside0.mk (Below.refl w.heap.size w)
  have H : (pleachref16_Names_p.l0 k ([] : List ByteArray) 0 l0_0 l0_1 a0_2 a0_3) = some r := h
  clear h
  have H' := Aside0.mk H
  clear H
  go_enter Tryd.func35, Tryd.ntmps35
  go_wp2_with (first | ((with_reducible refine gate_dst (N := 1) rfl ?_); refine box_event ?hg (N := 1) ?hd (cs := #[.slice A0_0 l0_0.length c0_0, .slice A0_1 l0_1.length c0_1, .string a0_2, .string a0_3]) (t := 41) ?hr ?_; (case hd => rfl); (case hg => rfl); (case hr => first | (go_simp; done) | (go_simp; rfl)); intro zae hg w2 hbox hb; have n0_ := M.upS HB hb; have n1_ := Aside0.mk (hbox); have n2_ := M.upG HB hg; have n3_ := M.upG HB hg; clear HB; have HB := n0_; have zaf := n1_; have zag := n2_; have zah := n3_; clear n0_ n1_ n2_ n3_; clear hb hbox hg))
  go_loopg [3, 4] k (fun kq v3 v4 w' => ∃ (x3_1 : List ByteArray) (x4_1 : Int), v4 = .int .i64 x4_1 ∧ Aside0 (pleachref16_Names_p.l0 kq x3_1 x4_1 l0_0 l0_1 a0_2 a0_3 = some r) ∧ Aside0 (kq ≤ k) ∧ Aside0 (Kd.R Kd.string 9 w' w.heap.size (fun _ => True) v3 x3_1) ∧ Aside0 (w'.heap[zae]? = some (.cells #[(.slice A0_0 l0_0.length c0_0), (.slice A0_1 l0_1.length c0_1), .string a0_2, .string a0_3] 41 (0, 0))) ∧ Aside0 (Below w.heap.size w w'))
  case atStart => exact ⟨(([] : List ByteArray)), (0), (by first | rfl | (simp; done) | (simp [*]; done) | (simp [M.isEmpty_bne]; done)), H', ⟨Nat.le_refl _⟩, ⟨by first | exact Kd.R_nil _ _ _ _ _ | exact Kd.N_nil _ _ _ _ _ | exact Kd.V_nil _ _ _ _ _ | exact Kd.Q_nil _ _ _ _ _ | exact Kd.S_nil _ _ _ _ _⟩, ⟨by (with_reducible repeat (first | refine blk_drewN ?_ _ | refine blk_drew ?_ | refine blk_alloc ?_ _)); exact zaf.out⟩, ⟨M.up HB⟩⟩
  case round =>
    clear H'
    try clear p2
    obtain ⟨x3_1, x4_1, rfl, HA, HK1, zai, zaf, HB⟩ := hrel
    cases gk with
    | zero => exact absurd HA.out (by simp [pleachref16_Names_p.l0])
    | succ k1 =>
      have H := HA.out
      clear HA
      simp only [pleachref16_Names_p.l0] at H
      by_cases c3 : x4_1 < (l0_1.length : Int)
      · rw [if_pos c3] at H
        have c3b0 : decide (x4_1 < (l0_1.length : Int)) = true := decide_eq_true c3
        clear c3
        by_cases c4 : 0 ≤ x4_1
        · rw [if_pos c4] at H
          have c4b0 : decide (0 ≤ x4_1) = true := decide_eq_true c4
          clear c4
          replace H := Option.bind_eq_some_iff.mp H
          obtain ⟨t176, A50, H⟩ := H
          replace H : (pleachref16_Names_p.l0 k1 t176 (wrap64 (x4_1 + 1)) l0_0 l0_1 a0_2 a0_3) = some r := H
          have A5 := Aside0.mk A50
          clear A50
          have H' := Aside0.mk H
          clear H
          have zaj : wr.cell? ⟨zae, 0, none⟩ = some (.slice A0_0 l0_0.length c0_0) := (blk_cell zaf.out 0).trans rfl
          have zak : wr.cell? ⟨zae, 1, none⟩ = some (.slice A0_1 l0_1.length c0_1) := (blk_cell zaf.out 1).trans rfl
          have zal : wr.cell? ⟨zae, 2, none⟩ = some (.string a0_2) := (blk_cell zaf.out 2).trans rfl
          have zam : wr.cell? ⟨zae, 3, none⟩ = some (.string a0_3) := (blk_cell zaf.out 3).trans rfl
          have zan := blk_frozen zaf.out 0
          have zao := blk_frozen zaf.out 1
          have zap := blk_frozen zaf.out 2
          have zaq := blk_frozen zaf.out 3
          have p175 : 0 ≤ (x4_1 : Int) := of_decide_eq_true (by first | (with_reducible assumption) | assumption)
          have q175 : x4_1 < (l0_1.length : Int) := of_decide_eq_true (by first | (with_reducible assumption) | assumption)
          obtain ⟨ad175, e175, hx175_0⟩ := Kd.at_string HR0_1.out x4_1 p175 q175
          cases e175
          replace hx175_0 := (HB.out.cell (World.block_lt_of_cell? w _ hx175_0)).trans hx175_0
          replace p175 := eq_true p175
          replace q175 := eq_true q175
          obtain ⟨Ao7, co7, eo7⟩ := Kd.R_slice zai.out
          subst eo7
          go_wp2_with (first | ((with_reducible refine gate_callee (f := 46) rfl ?_); refine M.goes (some 18) Tryd.func46 #[.slice Ao7 x3_1.length co7, .string (rdOf ByteArray.empty l0_1 x4_1)] rfl ?_; (with_reducible refine (pleachref05_With.rowed _ _ x3_1 (rdOf ByteArray.empty l0_1 x4_1) t176 _ w.heap.size ?side1 ?side3 ?side2 A5.out).mono ?_); (case side1 => exact M.ro zai); (case side3 => exact below_size (M.up HB)); (case side2 => exact (Kd.R_reads' zai.out).2.1); rintro e w8 ⟨v177, rfl, ho0, hb⟩; refine ⟨_, rfl, ?_⟩; have n0_ := M.roB zai hb; have n1_ := Aside0.mk ho0; have n2_ := M.bkB zaf hb; have n3_ := M.upS HB hb; clear zai zaf HB; have zai := n0_; have HO178 := n1_; have zaf := n2_; have HB := n3_; clear n0_ n1_ n2_ n3_; (try clear hb); (try clear ho0)))
          go_roundg k1
          case measure => have := HK1.out; omega
          case rel => exact ⟨(t176), (wrap64 (x4_1 + 1)), (by first | rfl | (simp; done) | (simp [*]; done) | (simp [M.isEmpty_bne]; done)), H', ⟨by have := HK1.out; omega⟩, ⟨by (with_reducible repeat (first | apply Kd.R_alloc | apply Kd.R_drewN | apply Kd.R_drew)); exact Kd.R_mono HO178.out (fun _ hk => trivial)⟩, ⟨by (with_reducible repeat (first | refine blk_drewN ?_ _ | refine blk_drew ?_ | refine blk_alloc ?_ _)); exact zaf.out⟩, ⟨M.up HB⟩⟩
        · rw [if_neg c4] at H
          exact absurd H (by simp)
      · rw [if_neg c3] at H
        have c3b0 : decide (x4_1 < (l0_1.length : Int)) = false := decide_eq_false c3
        clear c3
        obtain rfl := Option.some.inj H
        have zar : wr.cell? ⟨zae, 0, none⟩ = some (.slice A0_0 l0_0.length c0_0) := (blk_cell zaf.out 0).trans rfl
        have zas : wr.cell? ⟨zae, 1, none⟩ = some (.slice A0_1 l0_1.length c0_1) := (blk_cell zaf.out 1).trans rfl
        have zat : wr.cell? ⟨zae, 2, none⟩ = some (.string a0_2) := (blk_cell zaf.out 2).trans rfl
        have zau : wr.cell? ⟨zae, 3, none⟩ = some (.string a0_3) := (blk_cell zaf.out 3).trans rfl
        have zav := blk_frozen zaf.out 0
        have zaw := blk_frozen zaf.out 1
        have zax := blk_frozen zaf.out 2
        have zay := blk_frozen zaf.out 3
        go_wp2
        go_ret
        exact ⟨_, by first | rfl | (simp [errW_none, errW_some] <;> rfl) | (simp [*, errW_none, errW_some] <;> rfl), by (with_reducible repeat (first | apply Kd.R_alloc | apply Kd.R_drewN | apply Kd.R_drew)); exact zai.out, M.up HB⟩

-- this session's own plain form
def pleachref16_Names.f (l0 l1 : List ByteArray) (a b : ByteArray) : Option (List ByteArray) := if l1.Nodup ∧ l1.length ≤ 1000000 then some (M.sortB l1) else none
theorem pleachref16_Names.one {l : List ByteArray} (hl : l.length ≤ 1000000000000) (s : ByteArray) : pleachref05_With.f l s = some (M.wit l s) := by
  have hc := M.cnt_le l s
  unfold pleachref05_With.f pleachref05_In.f pleachref05_Less.f M.wit
  rw [if_pos (by omega), Option.bind_some]
  by_cases hs : s ∈ l
  · rw [if_pos hs, if_pos (by simp only [decide_eq_true hs])]
  · rw [if_neg hs, if_neg (by simp only [decide_eq_false hs]; simp), if_pos (by omega), Option.bind_some, Option.bind_some, if_pos (by omega), if_pos (by omega), if_pos (by simp; omega), Option.bind_some, Option.bind_some, if_pos (by simp; omega), Option.bind_some, if_pos (by simp; omega), Int.toNat_natCast, List.nil_append, List.append_assoc]; rfl
theorem pleachref16_Names.fold_len (m : List ByteArray) : ∀ l : List ByteArray, (m.foldl M.wit l).length ≤ l.length + m.length := by
  induction m with
  | nil => intro l; simp
  | cons x m ih =>
    intro l
    rw [List.foldl_cons, List.length_cons]
    have h1 := ih (M.wit l x)
    have h2 := M.wit_length l x
    omega
theorem pleachref16_Names.loop (ts us : List ByteArray) (a b : ByteArray) (hl : us.length ≤ 1000000) (d : Nat) : ∀ i : Nat, i + d = us.length →
    pleachref16_Names_p.l0 (d + 1) ((us.take i).foldl M.wit []) (i : Int) ts us a b = some (us.foldl M.wit []) := by
  induction d with
  | zero =>
    intro i hi
    rw [pleachref16_Names_p.l0, if_neg (by omega), List.take_of_length_le (by omega)]
  | succ d ih =>
    intro i hi
    have hlt : i < us.length := by omega
    have hrd : rdOf ByteArray.empty us (i : Int) = us[i] := by simp [rdOf, List.getD, hlt]
    have hfl := pleachref16_Names.fold_len (us.take i) []
    have hlen : ((us.take i).foldl M.wit []).length ≤ 1000000000000 := by rw [List.length_take] at hfl; simp at hfl; omega
    rw [pleachref16_Names_p.l0, if_pos (by omega), if_pos (by omega), hrd, pleachref16_Names.one hlen, Option.bind_some, M.wrap64_id (by omega) (by omega), show (i : Int) + 1 = ((i + 1 : Nat) : Int) from by omega]
    have := ih (i + 1) (by omega)
    rw [List.take_succ_eq_append_getElem hlt, List.foldl_append] at this
    exact this
theorem pleachref16_Names.same {us : List ByteArray} (h : us.Nodup) : us.foldl M.wit [] = M.sortB us := by
  have h1 := M.foldl_wit (l := []) List.Pairwise.nil us
  refine M.rises_ext h1.1 (M.sortB_rises h) ?_
  intro x
  rw [h1.2 x, (M.sortB_perm us).mem_iff]
  simp
theorem pleachref16_Names.ev (l0 l1 : List ByteArray) (a b : ByteArray) (r : List ByteArray) (h : pleachref16_Names.f l0 l1 a b = some r) : ∃ k, pleachref16_Names_p.f k l0 l1 a b = some r := by
  unfold pleachref16_Names.f at h
  split at h
  case isFalse => cases h
  case isTrue hh =>
    refine ⟨l1.length + 1, ?_⟩
    rw [← h, ← pleachref16_Names.same hh.1]
    exact pleachref16_Names.loop l0 l1 a b hh.2 l1.length 0 (by omega)
theorem pleachref16_Names.calls (A0_0 : Option Addr) (c0_0 : Nat) (l0_0 : List ByteArray) (A0_1 : Option Addr) (c0_1 : Nat) (l0_1 : List ByteArray) (a0_2 : ByteArray) (a0_3 : ByteArray) (r : List ByteArray) (w : World) (hr0_0 : Kd.C Kd.string w A0_0 l0_0.length l0_0) (hc0_0 : l0_0.length ≤ c0_0) (hr0_1 : Kd.C Kd.string w A0_1 l0_1.length l0_1) (hc0_1 : l0_1.length ≤ c0_1) (h : pleachref16_Names.f l0_0 l0_1 a0_2 a0_3 = some r) :
    Calls Tryd.prog 35 #[.agg #[.slice A0_0 l0_0.length c0_0, .slice A0_1 l0_1.length c0_1, .string a0_2, .string a0_3]] w fun e w' => ∃ v0_ : Value, e = .returned (v0_) ∧ Kd.R Kd.string 9 w' w.heap.size (fun _ => True) v0_ r ∧ Below w.heap.size w w' := by
  obtain ⟨k, hk⟩ := pleachref16_Names.ev _ _ _ _ _ h
  exact pleachref16_Names_p.calls (k := k) (w := w) (h := hk) (hr0_0 := hr0_0) (hc0_0 := hc0_0) (hr0_1 := hr0_1) (hc0_1 := hc0_1)

/-! ### pleachlaw16_same: function 17 -/
section
variable (base g : Nat) (F : Nat → Prop) (s q : M.SS) (A0 A1 : Option Addr) (c0 c1 : Nat)
theorem pleachlaw16_same.texts (n : Nat) (w : World) (h : M.Two Tryd.prog base w g F s q A0 A1 c0 c1) (hts : s.ts.length ≤ 1000000) (hn : s.ts.length = n) :
    Calls Tryd.prog 21 #[.pointer (some ⟨g, 0, none⟩), .int .i64 0] w fun e w' => ∃ A c, e = .returned (.slice A n c) ∧ Kd.R Kd.string 9 w' w.heap.size (fun _ => True) (.slice A n c) s.ts ∧ Below w.heap.size w w' := by
  subst hn
  obtain ⟨B, D, vt, vn, hs, hF, hl⟩ := h.sh
  refine (shelf_Shelf_Texts.calls base g B D vt vn s.ts s.a s.b 0 w hs (by omega) (Nat.zero_le _)).mono ?_
  rintro e w' ⟨v, rfl, ho, hb⟩
  rw [List.drop_zero] at ho
  obtain ⟨A, c, rfl⟩ := Kd.R_slice ho
  exact ⟨A, c, rfl, ho, hb⟩
theorem pleachlaw16_same.len (n : Nat) (w : World) (h : M.Two Tryd.prog base w g F s q A0 A1 c0 c1) (hn : s.ts.length = n) :
    Calls Tryd.prog 22 #[.pointer (some ⟨g, 0, none⟩)] w fun e w' => e = .returned (.int .i64 (n : Int)) ∧ Below w.heap.size w w' := by
  subst hn
  refine (shelf_Shelf_Len.any base g F s w h.sh).mono ?_
  rintro e w' ⟨rfl, rfl⟩
  exact ⟨rfl, Below.refl _ _⟩
theorem pleachlaw16_same.names (zs : List ByteArray) (w : World) (h : M.Two Tryd.prog base w g F s q A0 A1 c0 c1) (hts : s.ts.length ≤ 1000000) (hz : M.sortB (s.ts.map M.shaSum) = zs) :
    Calls Tryd.prog 23 #[.pointer (some ⟨g, 0, none⟩)] w fun e w' => ∃ A c, e = .returned (.slice A zs.length c) ∧ Kd.R Kd.string 9 w' w.heap.size (fun _ => True) (.slice A zs.length c) zs ∧ Below w.heap.size w w' := by
  subst hz
  obtain ⟨B, D, vt, vn, hs, hF, hl⟩ := h.sh
  refine (shelf_Shelf_Names.calls base g B D vt vn s.ts s.a s.b w hs (by omega)).mono ?_
  rintro e w' ⟨v, rfl, ho, hb⟩
  obtain ⟨A, c, rfl⟩ := Kd.R_slice ho
  exact ⟨A, c, rfl, ho, hb⟩
theorem pleachlaw16_same.rnames (n : Nat) (a b : ByteArray) (zs : List ByteArray) (w : World) (h : M.Two Tryd.prog base w g F s q A0 A1 c0 c1) (hts : s.ts.length ≤ 1000000) (hn : s.ts.length = n) (hz : M.sortB (s.ts.map M.shaSum) = zs) (hq : q.ts = s.ts) :
    Calls Tryd.prog 35 #[.agg #[.slice A0 n c0, .slice A1 n c1, .string a, .string b]] w fun e w' => ∃ A c, e = .returned (.slice A zs.length c) ∧ Kd.R Kd.string 9 w' w.heap.size (fun _ => True) (.slice A zs.length c) zs ∧ Below w.heap.size w w' := by
  subst hn hz
  have hf : pleachref16_Names.f q.ts (q.ts.map M.shaSum) a b = some (M.sortB (q.ts.map M.shaSum)) := if_pos ⟨by rw [hq]; exact h.sh.nd, by rw [List.length_map, hq]; omega⟩
  have := pleachref16_Names.calls A0 c0 q.ts A1 c1 (q.ts.map M.shaSum) a b _ w h.r0 h.h0 h.r1 (by rw [List.length_map]; exact h.h1) hf
  rw [List.length_map, hq] at this
  refine this.mono ?_
  rintro e w' ⟨v, rfl, ho, hb⟩
  obtain ⟨A, c, rfl⟩ := Kd.R_slice ho
  exact ⟨A, c, rfl, ho, hb⟩
end
theorem pleachlaw16_same.eq_ (base g : Nat) (F : Nat → Prop) (s q : M.SS) (A0 A1 : Option Addr) (c0 c1 : Nat) (Ax : Option Addr) (cx : Nat) (n : Nat) (w : World) (h : M.Two Tryd.prog base w g F s q A0 A1 c0 c1) (hh1 : ∃ B, Kd.R Kd.string 9 w B (fun _ => True) (.slice Ax n cx) s.ts) (hq : q.ts = s.ts) (hn : s.ts.length = n) (hl : s.ts.length ≤ 1000000) :
    Calls Tryd.prog 20 #[.slice Ax n cx, .slice A0 n c0] w fun e w' => e = .returned (.bool true) ∧ Drawn0 w w' := by
  subst hn
  obtain ⟨B, h1⟩ := hh1
  have h2 := h.r0
  have hc := h.h0
  rw [hq] at h2 hc
  exact pleachplain_Texts.calls Ax cx s.ts A0 c0 s.ts true w (Kd.R_reads' h1).2.2 (Kd.R_reads' h1).2.1 h2 hc (by unfold pleachplain_Texts.f; rw [if_pos (by omega)]; simp)
theorem pleachlaw16_same.eq2 (Ax A0 : Option Addr) (cx c0 : Nat) (ts : List ByteArray) (w : World) (hh1 : ∃ B, Kd.R Kd.string 9 w B (fun _ => True) (.slice Ax ts.length cx) ts) (hh2 : ∃ B, Kd.R Kd.string 9 w B (fun _ => True) (.slice A0 ts.length c0) ts) (hl : ts.length ≤ 1000000) :
    Calls Tryd.prog 20 #[.slice Ax ts.length cx, .slice A0 ts.length c0] w fun e w' => e = .returned (.bool true) ∧ Drawn0 w w' := by
  obtain ⟨B, h1⟩ := hh1
  obtain ⟨B2, h2⟩ := hh2
  exact pleachplain_Texts.calls Ax cx ts A0 c0 ts true w (Kd.R_reads' h1).2.2 (Kd.R_reads' h1).2.1 (Kd.R_reads' h2).2.2 (Kd.R_reads' h2).2.1 (by unfold pleachplain_Texts.f; rw [if_pos (by omega)]; simp)
set_option maxHeartbeats 8000000 in
set_option maxRecDepth 100000 in
theorem pleachlaw16_same.yes (base g : Nat) (F : Nat → Prop) (s : M.SS) (A0 A1 : Option Addr) (c0 c1 : Nat) (w : World) (h : M.Two Tryd.prog base w g F s s A0 A1 c0 c1) (hab : s.a = ByteArray.empty → s.b = ByteArray.empty) (hts : s.ts.length ≤ 1000000) :
    Calls Tryd.prog 17 #[.pointer (some ⟨g, 0, none⟩), .agg #[.slice A0 s.ts.length c0, .slice A1 s.ts.length c1, .string s.a, .string s.b]] w fun e w' => e = .returned (.bool true) ∧ Below w.heap.size w w' := by
  obtain ⟨q, hq0⟩ : ∃ q, q = s := ⟨s, rfl⟩
  have h : M.Two Tryd.prog base w g F s q A0 A1 c0 c1 := by rw [hq0]; exact h
  have HQ := Aside0.mk (congrArg M.SS.ts hq0)
  clear hq0
  obtain ⟨n, hn⟩ : ∃ n, s.ts.length = n := ⟨_, rfl⟩
  obtain ⟨zs, hz⟩ : ∃ zs, M.sortB (s.ts.map M.shaSum) = zs := ⟨_, rfl⟩
  have hc0 : n ≤ c0 := by have := h.h0; rw [HQ.out, hn] at this; exact this
  have HZL := Aside0.mk (show zs.length ≤ 1000000 by rw [← hz, (M.sortB_perm _).length_eq, List.length_map]; exact hts)
  have HT := Aside0.mk h
  have HC := Aside0.mk (M.rec_new w 41 [.slice A0 n c0, .slice A1 n c1, .string s.a, .string s.b])
  have HN := Aside0.mk hn
  have HZ := Aside0.mk hz
  have HTS := Aside0.mk hts
  have HAB := Aside0.mk hab
  have hcl : ∀ W, M.Sh Tryd.prog base W g F s → Calls Tryd.prog 11 #[.pointer (some ⟨g, 0, none⟩)] W fun e w' => e = .returned (.tuple #[.string s.a, .string s.b, .bool (decide (s.a ≠ ByteArray.empty))]) ∧ Drawn0 W w' := fun W hW => shelf_Shelf_Clash.any base g F s W hW hab
  rw [hn]
  obtain ⟨ts', a, b⟩ := s
  simp only at *
  have HCL := Aside0.mk hcl
  clear hcl h hab hz hn
  by_cases ha : a = ByteArray.empty
  · obtain rfl := HAB.out ha
    subst ha
    have hda : (ByteArray.empty : ByteArray).toList.isEmpty = true := by decide +kernel
    have hdb : decide (ByteArray.empty ≠ ByteArray.empty) = false := decide_eq_false (fun h => h rfl)
    go_enter Tryd.func17, Tryd.ntmps17
    go_upto_region 2 with (first | (go_at_call 11; (with_reducible refine (HCL.out _ (HT.out.sh.below (below_alloc (Below.refl w.heap.size w) _))).mono ?_); rintro e w1 ⟨rfl, hd⟩; have T1 := Aside0.mk ((HT.out.below (below_alloc (Below.refl w.heap.size w) (.cells #[.slice A0 n c0, .slice A1 n c1, .string ByteArray.empty, .string ByteArray.empty] 41))).below hd.below); have C1 := Aside0.mk (M.rec_below HC.out hd.below); have BW := Aside0.mk (below_step (below_alloc (Below.refl w.heap.size w) (.cells #[.slice A0 n c0, .slice A1 n c1, .string ByteArray.empty, .string ByteArray.empty] 41)) hd.below); clear hd))
    have HB0 := Aside0.mk (Below.refl w1.heap.size w1)
    have hlt0 : w.heap.size < w1.heap.size := M.rec_lt C1.out
    have E0 := Aside0.mk (show w1.cell? ⟨w.heap.size, 0, none⟩ = some (.slice A0 n c0) from M.rec_cell C1.out 0 _ rfl)
    have E1 := Aside0.mk (show w1.cell? ⟨w.heap.size, 1, none⟩ = some (.slice A1 n c1) from M.rec_cell C1.out 1 _ rfl)
    have E2 := Aside0.mk (show w1.cell? ⟨w.heap.size, 2, none⟩ = some (.string ByteArray.empty) from M.rec_cell C1.out 2 _ rfl)
    have E3 := Aside0.mk (show w1.cell? ⟨w.heap.size, 3, none⟩ = some (.string ByteArray.empty) from M.rec_cell C1.out 3 _ rfl)
    go_region_held3 (fun w' => w'.cell? ⟨w.heap.size, 0, none⟩ = some (.slice A0 n c0) ∧ w'.cell? ⟨w.heap.size, 1, none⟩ = some (.slice A1 n c1) ∧ w'.cell? ⟨w.heap.size, 2, none⟩ = some (.string ByteArray.empty) ∧ w'.cell? ⟨w.heap.size, 3, none⟩ = some (.string ByteArray.empty)) (first | exact ⟨(HB6.out.cell (p := ⟨w.heap.size, 0, none⟩) hlt0).trans E0.out, (HB6.out.cell (p := ⟨w.heap.size, 1, none⟩) hlt0).trans E1.out, (HB6.out.cell (p := ⟨w.heap.size, 2, none⟩) hlt0).trans E2.out, (HB6.out.cell (p := ⟨w.heap.size, 3, none⟩) hlt0).trans E3.out⟩ | exact ⟨(HB5.out.cell (p := ⟨w.heap.size, 0, none⟩) hlt0).trans E0.out, (HB5.out.cell (p := ⟨w.heap.size, 1, none⟩) hlt0).trans E1.out, (HB5.out.cell (p := ⟨w.heap.size, 2, none⟩) hlt0).trans E2.out, (HB5.out.cell (p := ⟨w.heap.size, 3, none⟩) hlt0).trans E3.out⟩ | exact ⟨(HB4.out.cell (p := ⟨w.heap.size, 0, none⟩) hlt0).trans E0.out, (HB4.out.cell (p := ⟨w.heap.size, 1, none⟩) hlt0).trans E1.out, (HB4.out.cell (p := ⟨w.heap.size, 2, none⟩) hlt0).trans E2.out, (HB4.out.cell (p := ⟨w.heap.size, 3, none⟩) hlt0).trans E3.out⟩ | exact ⟨(HB3.out.cell (p := ⟨w.heap.size, 0, none⟩) hlt0).trans E0.out, (HB3.out.cell (p := ⟨w.heap.size, 1, none⟩) hlt0).trans E1.out, (HB3.out.cell (p := ⟨w.heap.size, 2, none⟩) hlt0).trans E2.out, (HB3.out.cell (p := ⟨w.heap.size, 3, none⟩) hlt0).trans E3.out⟩ | exact ⟨(HB2.out.cell (p := ⟨w.heap.size, 0, none⟩) hlt0).trans E0.out, (HB2.out.cell (p := ⟨w.heap.size, 1, none⟩) hlt0).trans E1.out, (HB2.out.cell (p := ⟨w.heap.size, 2, none⟩) hlt0).trans E2.out, (HB2.out.cell (p := ⟨w.heap.size, 3, none⟩) hlt0).trans E3.out⟩ | exact ⟨(HB1.out.cell (p := ⟨w.heap.size, 0, none⟩) hlt0).trans E0.out, (HB1.out.cell (p := ⟨w.heap.size, 1, none⟩) hlt0).trans E1.out, (HB1.out.cell (p := ⟨w.heap.size, 2, none⟩) hlt0).trans E2.out, (HB1.out.cell (p := ⟨w.heap.size, 3, none⟩) hlt0).trans E3.out⟩ | exact ⟨(HB0.out.cell (p := ⟨w.heap.size, 0, none⟩) hlt0).trans E0.out, (HB0.out.cell (p := ⟨w.heap.size, 1, none⟩) hlt0).trans E1.out, (HB0.out.cell (p := ⟨w.heap.size, 2, none⟩) hlt0).trans E2.out, (HB0.out.cell (p := ⟨w.heap.size, 3, none⟩) hlt0).trans E3.out⟩ | exact (HB6.out.cell (p := ⟨w.heap.size, 0, none⟩) hlt0).trans E0.out | exact (HB6.out.cell (p := ⟨w.heap.size, 1, none⟩) hlt0).trans E1.out | exact (HB6.out.cell (p := ⟨w.heap.size, 2, none⟩) hlt0).trans E2.out | exact (HB6.out.cell (p := ⟨w.heap.size, 3, none⟩) hlt0).trans E3.out | exact (HB5.out.cell (p := ⟨w.heap.size, 0, none⟩) hlt0).trans E0.out | exact (HB5.out.cell (p := ⟨w.heap.size, 1, none⟩) hlt0).trans E1.out | exact (HB5.out.cell (p := ⟨w.heap.size, 2, none⟩) hlt0).trans E2.out | exact (HB5.out.cell (p := ⟨w.heap.size, 3, none⟩) hlt0).trans E3.out | exact (HB4.out.cell (p := ⟨w.heap.size, 0, none⟩) hlt0).trans E0.out | exact (HB4.out.cell (p := ⟨w.heap.size, 1, none⟩) hlt0).trans E1.out | exact (HB4.out.cell (p := ⟨w.heap.size, 2, none⟩) hlt0).trans E2.out | exact (HB4.out.cell (p := ⟨w.heap.size, 3, none⟩) hlt0).trans E3.out | exact (HB3.out.cell (p := ⟨w.heap.size, 0, none⟩) hlt0).trans E0.out | exact (HB3.out.cell (p := ⟨w.heap.size, 1, none⟩) hlt0).trans E1.out | exact (HB3.out.cell (p := ⟨w.heap.size, 2, none⟩) hlt0).trans E2.out | exact (HB3.out.cell (p := ⟨w.heap.size, 3, none⟩) hlt0).trans E3.out | exact (HB2.out.cell (p := ⟨w.heap.size, 0, none⟩) hlt0).trans E0.out | exact (HB2.out.cell (p := ⟨w.heap.size, 1, none⟩) hlt0).trans E1.out | exact (HB2.out.cell (p := ⟨w.heap.size, 2, none⟩) hlt0).trans E2.out | exact (HB2.out.cell (p := ⟨w.heap.size, 3, none⟩) hlt0).trans E3.out | exact (HB1.out.cell (p := ⟨w.heap.size, 0, none⟩) hlt0).trans E0.out | exact (HB1.out.cell (p := ⟨w.heap.size, 1, none⟩) hlt0).trans E1.out | exact (HB1.out.cell (p := ⟨w.heap.size, 2, none⟩) hlt0).trans E2.out | exact (HB1.out.cell (p := ⟨w.heap.size, 3, none⟩) hlt0).trans E3.out | exact (HB0.out.cell (p := ⟨w.heap.size, 0, none⟩) hlt0).trans E0.out | exact (HB0.out.cell (p := ⟨w.heap.size, 1, none⟩) hlt0).trans E1.out | exact (HB0.out.cell (p := ⟨w.heap.size, 2, none⟩) hlt0).trans E2.out | exact (HB0.out.cell (p := ⟨w.heap.size, 3, none⟩) hlt0).trans E3.out | go_keep) (first | (go_at_call 21; (with_reducible refine (pleachlaw16_same.texts base g F ⟨ts', ByteArray.empty, ByteArray.empty⟩ q A0 A1 c0 c1 n _ ?hT HTS.out HN.out).mono ?_); (case hT => exact T1.out.below ⟨HB0.out.os, HB0.out.tape, HB0.out.output, HB0.out.size, HB0.out.block⟩); rintro e w2 ⟨Ax, cx, rfl, ho, hb⟩; have HO2 := Aside0.mk ho; have HB1 := Aside0.mk (below_step HB0.out ⟨hb.os, hb.tape, hb.output, hb.size, hb.block⟩); clear hb ho) | (go_at_call 20; (with_reducible refine (pleachlaw16_same.eq_ base g F ⟨ts', ByteArray.empty, ByteArray.empty⟩ q A0 A1 c0 c1 Ax cx n _ ?hT ?hR HQ.out HN.out HTS.out).mono ?_); (case hT => exact T1.out.below ⟨HB1.out.os, HB1.out.tape, HB1.out.output, HB1.out.size, HB1.out.block⟩); (case hR => exact ⟨_, Kd.R_below HO2.out ⟨rfl, rfl, rfl, Nat.le_refl _, fun _ _ => rfl⟩⟩); rintro e w3 ⟨rfl, hd⟩; have hb := hd.below; have HB2 := Aside0.mk (below_step HB1.out ⟨hb.os, hb.tape, hb.output, hb.size, hb.block⟩); clear hb hd) | (go_at_call 22; (with_reducible refine (pleachlaw16_same.len base g F ⟨ts', ByteArray.empty, ByteArray.empty⟩ q A0 A1 c0 c1 n _ ?hT HN.out).mono ?_); (case hT => exact T1.out.below ⟨HB2.out.os, HB2.out.tape, HB2.out.output, HB2.out.size, HB2.out.block⟩); rintro e w4 ⟨rfl, hb⟩; have HB3 := Aside0.mk (below_step HB2.out ⟨hb.os, hb.tape, hb.output, hb.size, hb.block⟩); clear hb) | (go_at_call 23; (with_reducible refine (pleachlaw16_same.names base g F ⟨ts', ByteArray.empty, ByteArray.empty⟩ q A0 A1 c0 c1 zs _ ?hT HTS.out HZ.out).mono ?_); (case hT => exact T1.out.below ⟨HB3.out.os, HB3.out.tape, HB3.out.output, HB3.out.size, HB3.out.block⟩); rintro e w5 ⟨Ay, cy, rfl, ho, hb⟩; have HO5 := Aside0.mk ho; have HB4 := Aside0.mk (below_step HB3.out ⟨hb.os, hb.tape, hb.output, hb.size, hb.block⟩); clear hb ho) | (go_at_call 35; (with_reducible refine (pleachlaw16_same.rnames base g F ⟨ts', ByteArray.empty, ByteArray.empty⟩ q A0 A1 c0 c1 n ByteArray.empty ByteArray.empty zs _ ?hT HTS.out HN.out HZ.out HQ.out).mono ?_); (case hT => exact T1.out.below ⟨HB4.out.os, HB4.out.tape, HB4.out.output, HB4.out.size, HB4.out.block⟩); rintro e w6 ⟨Az, cz, rfl, ho, hb⟩; have HO6 := Aside0.mk ho; have HY6 := Aside0.mk (Kd.R_below HO5.out ⟨hb.os, hb.tape, hb.output, hb.size, hb.block⟩); have HB5 := Aside0.mk (below_step HB4.out ⟨hb.os, hb.tape, hb.output, hb.size, hb.block⟩); clear hb ho) | (go_at_call 20; (with_reducible refine (pleachlaw16_same.eq2 Ay Az cy cz zs _ ?hR ?hS HZL.out).mono ?_); (case hR => exact ⟨_, Kd.R_below HY6.out ⟨rfl, rfl, rfl, Nat.le_refl _, fun _ _ => rfl⟩⟩); (case hS => exact ⟨_, Kd.R_below HO6.out ⟨rfl, rfl, rfl, Nat.le_refl _, fun _ _ => rfl⟩⟩); rintro e w7 ⟨rfl, hd⟩; have hb := hd.below; have HB6 := Aside0.mk (below_step HB5.out ⟨hb.os, hb.tape, hb.output, hb.size, hb.block⟩); clear hb hd))
    all_goals
      go_wp2
      go_ret
      exact ⟨by first | rfl | (simp; done) | (simp [*]; done), below_step BW.out ⟨HB6.out.os, HB6.out.tape, HB6.out.output, HB6.out.size, HB6.out.block⟩⟩
  · have hda : a.toList.isEmpty = false := M.nonempty ha
    have hdb : decide (a ≠ ByteArray.empty) = true := decide_eq_true ha
    go_enter Tryd.func17, Tryd.ntmps17
    go_upto_region 2 with (first | (go_at_call 11; (with_reducible refine (HCL.out _ (HT.out.sh.below (below_alloc (Below.refl w.heap.size w) _))).mono ?_); rintro e w1 ⟨rfl, hd⟩; have T1 := Aside0.mk ((HT.out.below (below_alloc (Below.refl w.heap.size w) (.cells #[.slice A0 n c0, .slice A1 n c1, .string a, .string b] 41))).below hd.below); have C1 := Aside0.mk (M.rec_below HC.out hd.below); have BW := Aside0.mk (below_step (below_alloc (Below.refl w.heap.size w) (.cells #[.slice A0 n c0, .slice A1 n c1, .string a, .string b] 41)) hd.below); clear hd))
    have HB0 := Aside0.mk (Below.refl w1.heap.size w1)
    have hlt0 : w.heap.size < w1.heap.size := M.rec_lt C1.out
    have E0 := Aside0.mk (show w1.cell? ⟨w.heap.size, 0, none⟩ = some (.slice A0 n c0) from M.rec_cell C1.out 0 _ rfl)
    have E1 := Aside0.mk (show w1.cell? ⟨w.heap.size, 1, none⟩ = some (.slice A1 n c1) from M.rec_cell C1.out 1 _ rfl)
    have E2 := Aside0.mk (show w1.cell? ⟨w.heap.size, 2, none⟩ = some (.string a) from M.rec_cell C1.out 2 _ rfl)
    have E3 := Aside0.mk (show w1.cell? ⟨w.heap.size, 3, none⟩ = some (.string b) from M.rec_cell C1.out 3 _ rfl)
    go_region_held3 (fun w' => w'.cell? ⟨w.heap.size, 0, none⟩ = some (.slice A0 n c0) ∧ w'.cell? ⟨w.heap.size, 1, none⟩ = some (.slice A1 n c1) ∧ w'.cell? ⟨w.heap.size, 2, none⟩ = some (.string a) ∧ w'.cell? ⟨w.heap.size, 3, none⟩ = some (.string b)) (first | exact ⟨(HB6.out.cell (p := ⟨w.heap.size, 0, none⟩) hlt0).trans E0.out, (HB6.out.cell (p := ⟨w.heap.size, 1, none⟩) hlt0).trans E1.out, (HB6.out.cell (p := ⟨w.heap.size, 2, none⟩) hlt0).trans E2.out, (HB6.out.cell (p := ⟨w.heap.size, 3, none⟩) hlt0).trans E3.out⟩ | exact ⟨(HB5.out.cell (p := ⟨w.heap.size, 0, none⟩) hlt0).trans E0.out, (HB5.out.cell (p := ⟨w.heap.size, 1, none⟩) hlt0).trans E1.out, (HB5.out.cell (p := ⟨w.heap.size, 2, none⟩) hlt0).trans E2.out, (HB5.out.cell (p := ⟨w.heap.size, 3, none⟩) hlt0).trans E3.out⟩ | exact ⟨(HB4.out.cell (p := ⟨w.heap.size, 0, none⟩) hlt0).trans E0.out, (HB4.out.cell (p := ⟨w.heap.size, 1, none⟩) hlt0).trans E1.out, (HB4.out.cell (p := ⟨w.heap.size, 2, none⟩) hlt0).trans E2.out, (HB4.out.cell (p := ⟨w.heap.size, 3, none⟩) hlt0).trans E3.out⟩ | exact ⟨(HB3.out.cell (p := ⟨w.heap.size, 0, none⟩) hlt0).trans E0.out, (HB3.out.cell (p := ⟨w.heap.size, 1, none⟩) hlt0).trans E1.out, (HB3.out.cell (p := ⟨w.heap.size, 2, none⟩) hlt0).trans E2.out, (HB3.out.cell (p := ⟨w.heap.size, 3, none⟩) hlt0).trans E3.out⟩ | exact ⟨(HB2.out.cell (p := ⟨w.heap.size, 0, none⟩) hlt0).trans E0.out, (HB2.out.cell (p := ⟨w.heap.size, 1, none⟩) hlt0).trans E1.out, (HB2.out.cell (p := ⟨w.heap.size, 2, none⟩) hlt0).trans E2.out, (HB2.out.cell (p := ⟨w.heap.size, 3, none⟩) hlt0).trans E3.out⟩ | exact ⟨(HB1.out.cell (p := ⟨w.heap.size, 0, none⟩) hlt0).trans E0.out, (HB1.out.cell (p := ⟨w.heap.size, 1, none⟩) hlt0).trans E1.out, (HB1.out.cell (p := ⟨w.heap.size, 2, none⟩) hlt0).trans E2.out, (HB1.out.cell (p := ⟨w.heap.size, 3, none⟩) hlt0).trans E3.out⟩ | exact ⟨(HB0.out.cell (p := ⟨w.heap.size, 0, none⟩) hlt0).trans E0.out, (HB0.out.cell (p := ⟨w.heap.size, 1, none⟩) hlt0).trans E1.out, (HB0.out.cell (p := ⟨w.heap.size, 2, none⟩) hlt0).trans E2.out, (HB0.out.cell (p := ⟨w.heap.size, 3, none⟩) hlt0).trans E3.out⟩ | exact (HB6.out.cell (p := ⟨w.heap.size, 0, none⟩) hlt0).trans E0.out | exact (HB6.out.cell (p := ⟨w.heap.size, 1, none⟩) hlt0).trans E1.out | exact (HB6.out.cell (p := ⟨w.heap.size, 2, none⟩) hlt0).trans E2.out | exact (HB6.out.cell (p := ⟨w.heap.size, 3, none⟩) hlt0).trans E3.out | exact (HB5.out.cell (p := ⟨w.heap.size, 0, none⟩) hlt0).trans E0.out | exact (HB5.out.cell (p := ⟨w.heap.size, 1, none⟩) hlt0).trans E1.out | exact (HB5.out.cell (p := ⟨w.heap.size, 2, none⟩) hlt0).trans E2.out | exact (HB5.out.cell (p := ⟨w.heap.size, 3, none⟩) hlt0).trans E3.out | exact (HB4.out.cell (p := ⟨w.heap.size, 0, none⟩) hlt0).trans E0.out | exact (HB4.out.cell (p := ⟨w.heap.size, 1, none⟩) hlt0).trans E1.out | exact (HB4.out.cell (p := ⟨w.heap.size, 2, none⟩) hlt0).trans E2.out | exact (HB4.out.cell (p := ⟨w.heap.size, 3, none⟩) hlt0).trans E3.out | exact (HB3.out.cell (p := ⟨w.heap.size, 0, none⟩) hlt0).trans E0.out | exact (HB3.out.cell (p := ⟨w.heap.size, 1, none⟩) hlt0).trans E1.out | exact (HB3.out.cell (p := ⟨w.heap.size, 2, none⟩) hlt0).trans E2.out | exact (HB3.out.cell (p := ⟨w.heap.size, 3, none⟩) hlt0).trans E3.out | exact (HB2.out.cell (p := ⟨w.heap.size, 0, none⟩) hlt0).trans E0.out | exact (HB2.out.cell (p := ⟨w.heap.size, 1, none⟩) hlt0).trans E1.out | exact (HB2.out.cell (p := ⟨w.heap.size, 2, none⟩) hlt0).trans E2.out | exact (HB2.out.cell (p := ⟨w.heap.size, 3, none⟩) hlt0).trans E3.out | exact (HB1.out.cell (p := ⟨w.heap.size, 0, none⟩) hlt0).trans E0.out | exact (HB1.out.cell (p := ⟨w.heap.size, 1, none⟩) hlt0).trans E1.out | exact (HB1.out.cell (p := ⟨w.heap.size, 2, none⟩) hlt0).trans E2.out | exact (HB1.out.cell (p := ⟨w.heap.size, 3, none⟩) hlt0).trans E3.out | exact (HB0.out.cell (p := ⟨w.heap.size, 0, none⟩) hlt0).trans E0.out | exact (HB0.out.cell (p := ⟨w.heap.size, 1, none⟩) hlt0).trans E1.out | exact (HB0.out.cell (p := ⟨w.heap.size, 2, none⟩) hlt0).trans E2.out | exact (HB0.out.cell (p := ⟨w.heap.size, 3, none⟩) hlt0).trans E3.out | go_keep) (first | (go_at_call 21; (with_reducible refine (pleachlaw16_same.texts base g F ⟨ts', a, b⟩ q A0 A1 c0 c1 n _ ?hT HTS.out HN.out).mono ?_); (case hT => exact T1.out.below ⟨HB0.out.os, HB0.out.tape, HB0.out.output, HB0.out.size, HB0.out.block⟩); rintro e w2 ⟨Ax, cx, rfl, ho, hb⟩; have HO2 := Aside0.mk ho; have HB1 := Aside0.mk (below_step HB0.out ⟨hb.os, hb.tape, hb.output, hb.size, hb.block⟩); clear hb ho) | (go_at_call 20; (with_reducible refine (pleachlaw16_same.eq_ base g F ⟨ts', a, b⟩ q A0 A1 c0 c1 Ax cx n _ ?hT ?hR HQ.out HN.out HTS.out).mono ?_); (case hT => exact T1.out.below ⟨HB1.out.os, HB1.out.tape, HB1.out.output, HB1.out.size, HB1.out.block⟩); (case hR => exact ⟨_, Kd.R_below HO2.out ⟨rfl, rfl, rfl, Nat.le_refl _, fun _ _ => rfl⟩⟩); rintro e w3 ⟨rfl, hd⟩; have hb := hd.below; have HB2 := Aside0.mk (below_step HB1.out ⟨hb.os, hb.tape, hb.output, hb.size, hb.block⟩); clear hb hd) | (go_at_call 22; (with_reducible refine (pleachlaw16_same.len base g F ⟨ts', a, b⟩ q A0 A1 c0 c1 n _ ?hT HN.out).mono ?_); (case hT => exact T1.out.below ⟨HB2.out.os, HB2.out.tape, HB2.out.output, HB2.out.size, HB2.out.block⟩); rintro e w4 ⟨rfl, hb⟩; have HB3 := Aside0.mk (below_step HB2.out ⟨hb.os, hb.tape, hb.output, hb.size, hb.block⟩); clear hb) | (go_at_call 23; (with_reducible refine (pleachlaw16_same.names base g F ⟨ts', a, b⟩ q A0 A1 c0 c1 zs _ ?hT HTS.out HZ.out).mono ?_); (case hT => exact T1.out.below ⟨HB3.out.os, HB3.out.tape, HB3.out.output, HB3.out.size, HB3.out.block⟩); rintro e w5 ⟨Ay, cy, rfl, ho, hb⟩; have HO5 := Aside0.mk ho; have HB4 := Aside0.mk (below_step HB3.out ⟨hb.os, hb.tape, hb.output, hb.size, hb.block⟩); clear hb ho) | (go_at_call 35; (with_reducible refine (pleachlaw16_same.rnames base g F ⟨ts', a, b⟩ q A0 A1 c0 c1 n a b zs _ ?hT HTS.out HN.out HZ.out HQ.out).mono ?_); (case hT => exact T1.out.below ⟨HB4.out.os, HB4.out.tape, HB4.out.output, HB4.out.size, HB4.out.block⟩); rintro e w6 ⟨Az, cz, rfl, ho, hb⟩; have HO6 := Aside0.mk ho; have HY6 := Aside0.mk (Kd.R_below HO5.out ⟨hb.os, hb.tape, hb.output, hb.size, hb.block⟩); have HB5 := Aside0.mk (below_step HB4.out ⟨hb.os, hb.tape, hb.output, hb.size, hb.block⟩); clear hb ho) | (go_at_call 20; (with_reducible refine (pleachlaw16_same.eq2 Ay Az cy cz zs _ ?hR ?hS HZL.out).mono ?_); (case hR => exact ⟨_, Kd.R_below HY6.out ⟨rfl, rfl, rfl, Nat.le_refl _, fun _ _ => rfl⟩⟩); (case hS => exact ⟨_, Kd.R_below HO6.out ⟨rfl, rfl, rfl, Nat.le_refl _, fun _ _ => rfl⟩⟩); rintro e w7 ⟨rfl, hd⟩; have hb := hd.below; have HB6 := Aside0.mk (below_step HB5.out ⟨hb.os, hb.tape, hb.output, hb.size, hb.block⟩); clear hb hd))
    all_goals
      go_wp2
      go_ret
      exact ⟨by first | rfl | (simp; done) | (simp [*]; done), below_step BW.out ⟨HB6.out.os, HB6.out.tape, HB6.out.output, HB6.out.size, HB6.out.block⟩⟩

end Go.Proofs.YtccekjebfafgcaaDoor.EShelfApart
