/- Arguments of whatever kind, as they are read before a call, are rows, records and texts that the printed contracts take. No program in sight. -/
import Derived.Test.YtccekjebfafgcaaDoorCShelfApartMBytes
import Derived.ChangeArms
import Derived.Deep.Slices
import Derived.WideShapes
import Derived.OpenShut
namespace Go.Proofs.YtccekjebfafgcaaDoor.M
open Go.RowKit Go.ChangeShapes Go.WideShapes Go.Proofs.YtccekjebfafgcaaDoorW.PrintWords Go.Proofs.YtccekjebfafgcaaDoorW.PrintMore

/-- Whatever reads as a value of type t is told by d, and is good. -/
def Opn {α : Type} (P : Program) (t : TypeId) (d : Kd α) (G : α → Prop) : Prop :=
  ∀ (H : Type) (enc : TypeId × Value → H) (w : World) (fuel : Nat) (cs : List Value) (x : DataW H × List MemPlace), DataW.trod enc P w 0 (fun _ => true) true fuel t cs = some x → ∃ v : α, d.K w v cs ∧ G v

theorem opn_int {P : Program} {t : TypeId} {k : IntKind} (ht : P.underlying t = some (.int k)) : Opn P t (Kd.int k) (fun n => (Lit.int k n).wf = true) := by
  intro H enc w fuel cs x h
  obtain ⟨n, rfl, _, hw⟩ := DataW.trod_int ht h
  exact ⟨n, rfl, hw⟩
theorem opn_string {P : Program} {t : TypeId} (ht : P.underlying t = some .string) : Opn P t Kd.string (fun s => s.size ≤ 9223372036854775807) := by
  intro H enc w fuel cs x h
  obtain ⟨s, rfl, _, hs⟩ := DataW.trod_string ht h
  exact ⟨s, rfl, hs⟩

theorem cells_at {w : World} {base n : Nat} {a : Addr} {cs : List Value} (h : w.cells? base a n = some cs) : cs.length = n ∧ ∀ i u, cs[i]? = some u → w.cell? (a.add i) = some u := by
  obtain ⟨_, h2, h3⟩ := World.cells?_some h
  refine ⟨h2, fun i u hu => ?_⟩
  have hi := (List.getElem?_eq_some_iff.1 hu).1
  rw [h3 i (by omega), hu]

theorem opn_slice {α : Type} {P : Program} {t e : TypeId} {d : Kd α} {G : α → Prop} (ht : P.underlying t = some (.slice e)) (hc : P.cellsOf e = d.sz) (he : Opn P e d G) :
    Opn P t (Kd.slice e d) (fun l => (∀ x ∈ l, G x) ∧ l.length ≤ 9223372036854775807) := by
  intro H enc w fuel cs x h
  rcases Deep.open_slice ht h with ⟨rfl, _⟩ | ⟨a, len, cap, m, n, D, Pl, rfl, _, hl, hm, hmm, hxx, hx⟩
  · refine ⟨[], ⟨none, 0, rfl, Nat.le_refl _, rfl, Nat.zero_le _, fun h => absurd h (Nat.lt_irrefl _)⟩, fun x hx => absurd hx List.not_mem_nil, Nat.zero_le _⟩
  · have hcap : len ≤ 9223372036854775807 := Nat.le_trans hl hm
    have hlm : len ≤ m := by rw [hmm]; simpa using hl
    have hv : ∀ i, i < len → ∃ v : α, (∃ c, c.length = d.sz ∧ d.K w v c ∧ ∀ j u, c[j]? = some u → w.cell? (a.add (i * d.sz + j)) = some u) ∧ G v := by
      intro i hi
      obtain ⟨cs', h1, h2⟩ := hx i (Nat.lt_of_lt_of_le hi hlm)
      obtain ⟨v, hk, hg⟩ := he H enc w n cs' _ h2
      obtain ⟨_, h4⟩ := cells_at h1
      refine ⟨v, ⟨cs', d.K_len hk, hk, fun j u hu => ?_⟩, hg⟩
      have := h4 j u hu
      rwa [Deep.add_add, hc] at this
    obtain ⟨l, hll, hlp⟩ : ∃ l : List α, l.length = len ∧ ∀ i v, l[i]? = some v → (∃ c, c.length = d.sz ∧ d.K w v c ∧ ∀ j u, c[j]? = some u → w.cell? (a.add (i * d.sz + j)) = some u) ∧ G v := by
      clear hmm hx hlm hcap hl h hxx
      induction len with
      | zero => exact ⟨[], rfl, fun i v h => by simp at h⟩
      | succ len ih =>
        obtain ⟨l, h1, h2⟩ := ih (fun i hi => hv i (Nat.lt_succ_of_lt hi))
        obtain ⟨v, h3⟩ := hv len (Nat.lt_succ_self _)
        refine ⟨l ++ [v], by simp [h1], fun i u hu => ?_⟩
        rcases Nat.lt_or_ge i l.length with hlt | hge
        · rw [List.getElem?_append_left hlt] at hu
          exact h2 i u hu
        · rw [List.getElem?_append_right hge] at hu
          have hi0 : i - l.length = 0 := by
            by_cases e : i - l.length = 0
            · exact e
            · rw [List.getElem?_eq_none (by simp; omega)] at hu; cases hu
          rw [hi0] at hu
          have e2 : v = u := by simpa using hu
          have e3 : i = len := by omega
          rw [← e2, e3]
          exact h3
    refine ⟨l, ⟨some a, cap, by rw [hll], by rw [hll]; exact hl, rfl, by rw [hll]; exact hcap, fun _ => ⟨a, rfl, fun j p hj => (hlp j p hj).1⟩⟩, fun x hx => ?_, by rw [hll]; exact hcap⟩
    obtain ⟨i, hi⟩ := List.getElem?_of_mem hx
    exact (hlp i x hi).2

/-- The fields of a record from the cell o on, to its end. -/
def OpnF {α : Type} (P : Program) (total : Nat) (fs : List Field) (o : Nat) (d : Kd α) (G : α → Prop) : Prop :=
  ∀ (H : Type) (enc : TypeId × Value → H) (w : World) (fuel : Nat) (cs : List Value) (xs : List (DataW H × List MemPlace)), cs.length = total →
    (fs.mapM fun f => DataW.trod enc P w 0 (fun _ => true) true fuel f.type ((cs.drop f.offset).take (P.cellsOf f.type))) = some xs → ∃ v : α, d.K w v (cs.drop o) ∧ G v

theorem opnF_last {α : Type} {P : Program} {total o : Nat} {f : Field} {d : Kd α} {G : α → Prop} (ho : f.offset = o) (hs : o + P.cellsOf f.type = total) (hf : Opn P f.type d G) : OpnF P total [f] o d G := by
  intro H enc w fuel cs xs hl h
  simp only [List.mapM_cons, List.mapM_nil, Option.bind_eq_bind, Option.pure_def] at h
  obtain ⟨x, hx, _⟩ := Option.bind_eq_some_iff.1 h
  rw [ho, List.take_of_length_le (by rw [List.length_drop]; omega)] at hx
  exact hf H enc w fuel _ _ hx
theorem opnF_cons {α β : Type} {P : Program} {total o : Nat} {f : Field} {fs : List Field} {d : Kd α} {d' : Kd β} {G : α → Prop} {G' : β → Prop} (ho : f.offset = o) (hf : Opn P f.type d G)
    (hr : OpnF P total fs (o + P.cellsOf f.type) d' G') : OpnF P total (f :: fs) o (Kd.pair d d') (fun v => G v.1 ∧ G' v.2) := by
  intro H enc w fuel cs xs hl h
  simp only [List.mapM_cons, Option.bind_eq_bind, Option.pure_def] at h
  obtain ⟨x, hx, h2⟩ := Option.bind_eq_some_iff.1 h
  obtain ⟨ys, hys, _⟩ := Option.bind_eq_some_iff.1 h2
  rw [ho] at hx
  obtain ⟨v, hk, hg⟩ := hf H enc w fuel _ _ hx
  obtain ⟨v', hk', hg'⟩ := hr H enc w fuel cs ys hl hys
  refine ⟨(v, v'), ⟨_, _, ?_, hk, hk'⟩, hg, hg'⟩
  rw [← List.drop_drop, List.take_append_drop]
theorem opn_struct {α β : Type} {P : Program} {t : TypeId} {fs : Array Field} {d : Kd α} {G : α → Prop} (f : β → α) (g : α → β) (hfg : ∀ v, f (g v) = v) (ht : P.underlying t = some (.struct fs))
    (h : OpnF P (P.cellsOf t) fs.toList 0 d G) : Opn P t (Kd.iso d f) (fun v => G (f v)) := by
  intro H enc w fuel cs x hx
  cases fuel with
  | zero => simp [DataW.trod] at hx
  | succ fuel =>
    rw [DataW.trod.eq_def] at hx
    simp only [ht] at hx
    split at hx
    · rename_i hl
      obtain ⟨xs, hxs, _⟩ := Option.map_eq_some_iff.1 hx
      obtain ⟨v, hk, hg⟩ := h H enc w fuel cs xs hl hxs
      rw [List.drop_zero] at hk
      exact ⟨g v, by show d.K w (f (g v)) cs; rw [hfg]; exact hk, by show G (f (g v)); rw [hfg]; exact hg⟩
    · cases hx
theorem opn_tuple {α : Type} {P : Program} {t : TypeId} {fs : Array Field} {d : Kd α} {G : α → Prop} (ht : P.underlying t = some (.struct fs))
    (h : OpnF P (P.cellsOf t) fs.toList 0 d G) : Opn P t d G := by
  intro H enc w fuel cs x hx
  exact opn_struct (d := d) (fun v : α => v) (fun v => v) (fun _ => rfl) ht h H enc w fuel cs x hx
end Go.Proofs.YtccekjebfafgcaaDoor.M
