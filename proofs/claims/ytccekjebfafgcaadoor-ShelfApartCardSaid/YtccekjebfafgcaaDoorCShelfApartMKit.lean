/- Steps of a walk that are alike everywhere, each under one name. No program in sight. -/
import Derived.Test.YtccekjebfafgcaaDoorCShelfApartMBytes
namespace Go.Proofs.YtccekjebfafgcaaDoor.M
open Go.RowKit Go.Proofs.YtccekjebfafgcaaDoorW.PrintWords Go.Proofs.YtccekjebfafgcaaDoorW.PrintLast Go.Proofs.YtccekjebfafgcaaDoorW.PrintMore

/-- What was in w is in W as it was. -/
def Old (w W : World) : Prop := Below w.heap.size w W
theorem Old.refl (w : World) : Old w w := Below.refl _ _
theorem Old.alloc {w W : World} (h : Old w W) (o : Obj) : Old w (W.alloc o) := below_alloc h o
theorem Old.drewN {w W : World} (h : Old w W) (n : Nat) : Old w (W.drewN n) := pw_below_drewN h n
theorem Old.drew {w W : World} (h : Old w W) : Old w W.drew := below_drew h
/-- Below n, what was in w0 is in W as it was, if it was so of something that begins there. -/
def Ups (n : Nat) (w0 W : World) : Prop := ∀ w : World, n = w.heap.size → Below w.heap.size w w0 → Below w.heap.size w W
theorem Ups.refl (n : Nat) (w : World) : Ups n w w := fun _ _ h => h
theorem Ups.alloc {n : Nat} {w W : World} {o : Obj} (h : Ups n w W) : Ups n w (W.alloc o) := fun v e k => below_alloc (h v e k) o
theorem Ups.drewN {n : Nat} {w W : World} {m : Nat} (h : Ups n w W) : Ups n w (W.drewN m) := fun v e k => pw_below_drewN (h v e k) m
theorem Ups.drew {n : Nat} {w W : World} (h : Ups n w W) : Ups n w W.drew := fun v e k => below_drew1 (h v e k)
theorem Ups.set {n : Nat} {w W : World} {g j : Nat} {u : Value} (h : Ups n w W) (hg : Aside0 (n ≤ g)) : Ups n w (W.setCell ⟨g, j, none⟩ u) := fun v e k => below_set (h v e k) (e ▸ hg.out)

theorem up {w w0 W : World} (h : Aside0 (Below w.heap.size w w0)) (s : Ups w.heap.size w0 W := by repeat (first | (with_reducible first | exact Go.Proofs.YtccekjebfafgcaaDoor.M.Ups.refl _ _ | apply Go.Proofs.YtccekjebfafgcaaDoor.M.Ups.alloc | apply Go.Proofs.YtccekjebfafgcaaDoor.M.Ups.drewN | apply Go.Proofs.YtccekjebfafgcaaDoor.M.Ups.drew | refine Go.Proofs.YtccekjebfafgcaaDoor.M.Ups.set ?_ (by assumption)) | exact Go.Proofs.YtccekjebfafgcaaDoor.M.Ups.refl _ _)) : Below w.heap.size w W := s w rfl h.out
theorem upS {w w0 W w1 : World} (h : Aside0 (Below w.heap.size w w0)) (hb : Below W.heap.size W w1) (s : Ups w.heap.size w0 W := by repeat (first | (with_reducible first | exact Go.Proofs.YtccekjebfafgcaaDoor.M.Ups.refl _ _ | apply Go.Proofs.YtccekjebfafgcaaDoor.M.Ups.alloc | apply Go.Proofs.YtccekjebfafgcaaDoor.M.Ups.drewN | apply Go.Proofs.YtccekjebfafgcaaDoor.M.Ups.drew | refine Go.Proofs.YtccekjebfafgcaaDoor.M.Ups.set ?_ (by assumption)) | exact Go.Proofs.YtccekjebfafgcaaDoor.M.Ups.refl _ _)) : Aside0 (Below w.heap.size w w1) := ⟨below_step (s w rfl h.out) hb⟩
theorem upG {w w0 W : World} {q : Nat} (h : Aside0 (Below w.heap.size w w0)) (hg : q = W.heap.size) (s : Ups w.heap.size w0 W := by repeat (first | (with_reducible first | exact Go.Proofs.YtccekjebfafgcaaDoor.M.Ups.refl _ _ | apply Go.Proofs.YtccekjebfafgcaaDoor.M.Ups.alloc | apply Go.Proofs.YtccekjebfafgcaaDoor.M.Ups.drewN | apply Go.Proofs.YtccekjebfafgcaaDoor.M.Ups.drew | refine Go.Proofs.YtccekjebfafgcaaDoor.M.Ups.set ?_ (by assumption)) | exact Go.Proofs.YtccekjebfafgcaaDoor.M.Ups.refl _ _)) : Aside0 (w.heap.size ≤ q) := ⟨by rw [hg]; exact below_size (s w rfl h.out)⟩

theorem bkB {w W w1 : World} {g : Nat} {o : Obj} (h : Aside0 (w.heap[g]? = some o)) (hb : Below W.heap.size W w1) (s : Old w W := by (with_reducible repeat (first | refine Go.Proofs.YtccekjebfafgcaaDoor.M.Old.drewN ?_ _ | refine Go.Proofs.YtccekjebfafgcaaDoor.M.Old.drew ?_ | refine Go.Proofs.YtccekjebfafgcaaDoor.M.Old.alloc ?_ _)); exact Go.Proofs.YtccekjebfafgcaaDoor.M.Old.refl _) : Aside0 (w1.heap[g]? = some o) := ⟨blk_below (blk_below h.out s) hb⟩
theorem roB {α : Type} {d : Kd α} {e base : Nat} {ok : Nat → Prop} {v : Value} {xs : List α} {w W w1 : World} (h : Aside0 (d.R e w base ok v xs)) (hb : Below W.heap.size W w1) (s : Old w W := by (with_reducible repeat (first | refine Go.Proofs.YtccekjebfafgcaaDoor.M.Old.drewN ?_ _ | refine Go.Proofs.YtccekjebfafgcaaDoor.M.Old.drew ?_ | refine Go.Proofs.YtccekjebfafgcaaDoor.M.Old.alloc ?_ _)); exact Go.Proofs.YtccekjebfafgcaaDoor.M.Old.refl _) : Aside0 (d.R e w1 base ok v xs) := ⟨Kd.R_below (Kd.R_below h.out s) hb⟩
theorem ro {α : Type} {d : Kd α} {e base : Nat} {ok : Nat → Prop} {v : Value} {xs : List α} {w W : World} (h : Aside0 (d.R e w base ok v xs)) (s : Old w W := by (with_reducible repeat (first | refine Go.Proofs.YtccekjebfafgcaaDoor.M.Old.drewN ?_ _ | refine Go.Proofs.YtccekjebfafgcaaDoor.M.Old.drew ?_ | refine Go.Proofs.YtccekjebfafgcaaDoor.M.Old.alloc ?_ _)); exact Go.Proofs.YtccekjebfafgcaaDoor.M.Old.refl _) : d.R e W base ok v xs := Kd.R_below h.out s
/-- So many true, so many false, and so on. -/
def tfL : Bool → List Nat → List Bool
  | _, [] => []
  | b, n :: l => List.replicate n b ++ tfL (!b) l
abbrev tf (l : List Nat) : Array Bool := (tfL true l).toArray
/-- The end of a way. -/
theorem fin {p q : Prop} (hq : q) (hp : p := by first | rfl | (simp [errW_none, errW_some] <;> rfl) | (simp [*, errW_none, errW_some] <;> rfl)) : p ∧ q := ⟨hp, hq⟩
/-- A call. -/
theorem goes {P : Program} {ops : Array Oper} {Q : Exit → Act → World → Prop} {rest : List Oper} {oi : Oper} {a : Act} {w : World} (N : Option Tmp) {f : FuncId} {fn : Func} {as : Array Operand} {ts : Array TypeId} (hf : P.funcs[f]? = some fn) (args : Array Value)
    (hop : oi.op = .call { callee := .value (.func f), args := as, argTypes := ts }) (h : Calls P f args w fun e w' => ∃ v, e = .returned v ∧ wpList P ops Q rest (a.put N v) w')
    (hd : oi.dst = N := by rfl) (hg : oi.guard = none := by rfl) (hname : (fn.name == "runtime.NumGoroutine") = false := by kernel_rfl) (hb : fn.body.isSome = true := by rfl)
    (hargs : as.map a.eval = args := by (try simp only [List.map_toArray, List.map_cons, List.map_nil]); first | done | rfl | (simp only [List.length_drop, List.length_take]; rfl)) : wpList P ops Q (oi :: rest) a w := goesL_ N hd hg hf hname hb args hop hargs h
end Go.Proofs.YtccekjebfafgcaaDoor.M
