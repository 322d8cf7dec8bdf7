-- Laid by this session's own program (wip/tools/fold.py): this session's texts and words that print.sh laid for the seat, cut to what the claim names and put together; Lean checks it.
import Derived.Test.YtikdbklmhjlfoaaDoorUCommitKnots2
import Derived.Shelf.Slices.Clone
import Derived.Shelf.Slices.Delete
import Derived.Shelf.Spec.SlicesInsert
import Derived.Shelf.Spec.SlicesInsertGrow
import Derived.Sort.OwnSorted
namespace Go.Proofs.YtikdbklmhjlfoaaDoor.M
open Go.RowKit Go.Shelf Go.Sort Go.Proofs Go.Proofs.YtikdbklmhjlfoaaDoorW.PrintWords
variable {P : Program} {ρ : Ren}
theorem reads_n {α : Type} {R : α → List Value → Prop} {sz m n : Nat} {w : World} {A : Option Addr} {xs : List α} (h : ReadsRow R sz w A m xs) (e : m = n) : ReadsRow R sz w A n xs := e ▸ h
section
variable {α : Type} {d : Kd α} {w w1 : World} {v : Value} {xs : List α}
end
end Go.Proofs.YtikdbklmhjlfoaaDoor.M
section
set_option linter.unusedVariables false
namespace Go.Proofs.YtikdbklmhjlfoaaDoor.M
open Go.RowKit Go.Proofs.YtikdbklmhjlfoaaDoorW.PrintWords Go.Proofs.YtikdbklmhjlfoaaDoorW.PrintMore Go.Maps
def TKept (w W' : World) (F : Nat → Prop) : Prop := w.heap.size ≤ W'.heap.size ∧ ∀ k, k < w.heap.size → ¬ F k → (∃ cs, w.heap[k]? = some (.cells cs 9 (0, 0))) → W'.heap[k]? = w.heap[k]?
def Off (w : World) (F : Nat → Prop) (A : Option Addr) (n : Nat) (xs : List ByteArray) : Prop := ∀ W', TKept w W' F → Kd.C Kd.string W' A n xs
theorem Off.now {w : World} {F : Nat → Prop} {A : Option Addr} {n : Nat} {xs : List ByteArray} (h : Off w F A n xs) : Kd.C Kd.string w A n xs := h w ⟨Nat.le_refl _, fun _ _ _ _ => rfl⟩
theorem Off.step {w w1 : World} {F F1 : Nat → Prop} {A : Option Addr} {n : Nat} {xs : List ByteArray} (h : Off w F A n xs) (hk : Kept w w1 F) (hF : ∀ k, F1 k → F k ∨ w.heap.size ≤ k) : Off w1 F1 A n xs := by
 intro W' hk'
 refine h W' ⟨Nat.le_trans hk.1 hk'.1, ?_⟩
 intro k hlt hn ht
 have e := hk.2 k hlt hn
 rw [hk'.2 k (Nat.lt_of_lt_of_le hlt hk.1) (fun e => (hF k e).elim hn (fun q => by omega)) (by rw [e]; exact ht), e]
theorem Off.other {w w1 : World} {F : Nat → Prop} {A : Option Addr} {n b t : Nat} {xs : List ByteArray} {cs : Array Value} (h : Off w F A n xs) (hk : Kept w w1 (fun k => k = b)) (hb : w.heap[b]? = some (.cells cs t (0, 0))) (ht : t ≠ 9) : Off w1 F A n xs := by
 intro W' hk'
 refine h W' ⟨Nat.le_trans hk.1 hk'.1, ?_⟩
 intro k hlt hn h9
 have hne : k ≠ b := by
  rintro rfl
  obtain ⟨cs', e⟩ := h9
  rw [hb] at e
  injection e with e
  injection e with _ e _
  exact ht e
 have e := hk.2 k hlt hne
 rw [hk'.2 k (Nat.lt_of_lt_of_le hlt hk.1) hn (by rw [e]; exact h9), e]
theorem Off.below {w w1 : World} {F : Nat → Prop} {A : Option Addr} {n : Nat} {xs : List ByteArray} (h : Off w F A n xs) (hb : Below w.heap.size w w1) : Off w1 F A n xs := h.step (Kept.of_below hb F) (fun _ hk => .inl hk)
theorem Off.nil (w : World) (F : Nat → Prop) : Off w F none 0 [] := fun W' _ => ⟨rfl, by simp, fun h => absurd h (by simp)⟩
theorem Off.of_R {w : World} {F : Nat → Prop} {A : Option Addr} {n c B : Nat} {xs : List ByteArray} {ok : Nat → Prop} (h : Kd.R Kd.string 9 w B ok (.slice A n c) xs) (hF : ∀ k, F k → k < B) : Off w F A xs.length xs := by
 intro W' hk
 refine (Kd.R_reads' (Kd.R_step (Kd.R_bound h) (fun k hb hlt => hk.2 k hlt (fun q => by have := hF k q; have := hb.2.1; omega) ?_))).2.2
 obtain ⟨_, _, _, q, hq, cells, hc⟩ := hb
 have : q = 9 := by
  have hq' : q ∈ [9] := hq
  simpa using hq'
 subst this
 exact ⟨cells, hc⟩
theorem Off.take {w : World} {F : Nat → Prop} {A : Option Addr} {xs : List ByteArray} (h : Off w F A xs.length xs) (k : Nat) (hk : k ≤ xs.length) : Off w F A k (xs.take k) := by
 intro W' hq
 obtain ⟨h1, h2, h3⟩ := h W' hq
 have hl : (xs.take k).length = k := by rw [List.length_take]; omega
 refine ⟨hl, by omega, fun h0 => ?_⟩
 obtain ⟨ad, e, hc⟩ := h3 (by omega)
 refine ⟨ad, e, fun j p hp => hc j p ?_⟩
 rw [List.getElem?_take] at hp
 split at hp
 ·exact hp
 ·cases hp
structure Two (P : Program) (base : Nat) (w : World) (g : Nat) (F : Nat → Prop) (s q : SS) (A0 A1 : Option Addr) (c0 c1 : Nat) : Prop where
  sh : Sh P base w g F s
  o0 : Off w F A0 q.ts.length q.ts
  o1 : Off w F A1 q.ts.length (q.ts.map shaSum)
  h0 : q.ts.length ≤ c0
  h1 : q.ts.length ≤ c1
variable {P : Program} {base g : Nat} {w w1 : World} {F : Nat → Prop} {s q : SS} {A0 A1 : Option Addr} {c0 c1 : Nat}
theorem Sh.lt (h : Sh P base w g F s) : ∀ k, F k → k < w.heap.size := by
 obtain ⟨B, D, vt, vn, hs, hF, hl⟩ := h
 exact fun k hk => (hl k hk).2
theorem Sh.nd (h : Sh P base w g F s) : (s.ts.map shaSum).Nodup := by
 obtain ⟨B, D, vt, vn, hs, hF, hl⟩ := h
 exact hs.nd
theorem Two.below (h : Two P base w g F s q A0 A1 c0 c1) (hb : Below w.heap.size w w1) : Two P base w1 g F s q A0 A1 c0 c1 := ⟨h.sh.below hb, h.o0.below hb, h.o1.below hb, h.h0, h.h1⟩
theorem Two.r0 (h : Two P base w g F s q A0 A1 c0 c1) : Kd.C Kd.string w A0 q.ts.length q.ts := h.o0.now
theorem Two.r1 (h : Two P base w g F s q A0 A1 c0 c1) : Kd.C Kd.string w A1 (q.ts.map shaSum).length (q.ts.map shaSum) := by rw [List.length_map]; exact h.o1.now
theorem Two.shelf {s1 : SS} (h : Two P base w g F s q A0 A1 c0 c1) (hs : ShTo P base w g F s1 w1) : ∃ F1, Two P base w1 g F1 s1 q A0 A1 c0 c1 ∧ (∀ k, F1 k → F k ∨ w.heap.size ≤ k) ∧ Kept w w1 F ∧ Below base w w1 := by
 obtain ⟨F1, h1, h2, h3, h4⟩ := hs
 exact ⟨F1, ⟨h1, h.o0.step h3 h2, h.o1.step h3 h2, h.h0, h.h1⟩, h2, h3, h4⟩
theorem Two.rows {q1 : SS} {v0 v1 : Value} (h : Two P base w g F s q A0 A1 c0 c1) (hb : Below w.heap.size w w1)
    (hv : (v0 = .slice A0 q.ts.length c0 ∧ v1 = .slice A1 q.ts.length c1 ∧ q1.ts = q.ts) ∨ (Kd.R Kd.string 9 w1 w.heap.size (fun _ => True) v0 q1.ts ∧ Kd.R Kd.string 9 w1 w.heap.size (fun _ => True) v1 (q1.ts.map shaSum))) :
    ∃ B0 B1 d0 d1, v0 = .slice B0 q1.ts.length d0 ∧ v1 = .slice B1 q1.ts.length d1 ∧ Two P base w1 g F s q1 B0 B1 d0 d1 := by
 rcases hv with ⟨e0, e1, e2⟩ | ⟨k0, k1⟩
 ·refine ⟨A0, A1, c0, c1, by rw [e2]; exact e0, by rw [e2]; exact e1, ⟨h.sh.below hb, ?_, ?_, ?_, ?_⟩⟩
  ·rw [e2]; exact h.o0.below hb
  ·rw [e2]; exact h.o1.below hb
  ·rw [e2]; exact h.h0
  ·rw [e2]; exact h.h1
 ·obtain ⟨B0, d0, rfl⟩ := Kd.R_slice k0
  obtain ⟨B1, d1, rfl⟩ := Kd.R_slice k1
  have m0 := (Kd.R_reads' k0).2.1
  have m1 := (Kd.R_reads' k1).2.1
  rw [List.length_map] at m1
  refine ⟨B0, B1, d0, d1, rfl, by rw [List.length_map], ⟨h.sh.below hb, Off.of_R k0 h.sh.lt, ?_, m0, m1⟩⟩
  have := Off.of_R k1 h.sh.lt
  rwa [List.length_map] at this
structure Rw (w : World) (G : Nat → Prop) (q : SS) (A0 A1 : Option Addr) (c0 c1 : Nat) : Prop where
  o0 : Off w G A0 q.ts.length q.ts
  o1 : Off w G A1 q.ts.length (q.ts.map shaSum)
  h0 : q.ts.length ≤ c0
  h1 : q.ts.length ≤ c1
theorem Rw.step {G G1 : Nat → Prop} (h : Rw w G q A0 A1 c0 c1) (hk : Kept w w1 G) (hG : ∀ k, G1 k → G k ∨ w.heap.size ≤ k) : Rw w1 G1 q A0 A1 c0 c1 := ⟨h.o0.step hk hG, h.o1.step hk hG, h.h0, h.h1⟩
theorem Rw.below {G : Nat → Prop} (h : Rw w G q A0 A1 c0 c1) (hb : Below w.heap.size w w1) : Rw w1 G q A0 A1 c0 c1 := ⟨h.o0.below hb, h.o1.below hb, h.h0, h.h1⟩
theorem Rw.kept {G S : Nat → Prop} (h : Rw w G q A0 A1 c0 c1) (hk : Kept w w1 S) (hS : ∀ k, S k → G k) : Rw w1 G q A0 A1 c0 c1 := h.step (hk.mono hS) (fun _ hk => .inl hk)
theorem Rw.two {G : Nat → Prop} (h : Rw w G q A0 A1 c0 c1) (hs : Sh P base w g F s) (hG : ∀ k, F k → G k) : Two P base w g F s q A0 A1 c0 c1 := by
 have := h.step (Kept.refl w G) (G1 := F) (fun k hk => .inl (hG k hk))
 exact ⟨hs, this.o0, this.o1, this.h0, this.h1⟩
theorem Rw.r0 {G : Nat → Prop} (h : Rw w G q A0 A1 c0 c1) : Kd.C Kd.string w A0 q.ts.length q.ts := h.o0.now
theorem Rw.r1 {G : Nat → Prop} (h : Rw w G q A0 A1 c0 c1) : Kd.C Kd.string w A1 (q.ts.map shaSum).length (q.ts.map shaSum) := by rw [List.length_map]; exact h.o1.now
theorem Rw.rows {G : Nat → Prop} {q1 : SS} {v0 v1 : Value} (h : Rw w G q A0 A1 c0 c1) (hG : ∀ k, G k → k < w.heap.size) (hb : Below w.heap.size w w1)
    (hv : (v0 = .slice A0 q.ts.length c0 ∧ v1 = .slice A1 q.ts.length c1 ∧ q1.ts = q.ts) ∨ (Kd.R Kd.string 9 w1 w.heap.size (fun _ => True) v0 q1.ts ∧ Kd.R Kd.string 9 w1 w.heap.size (fun _ => True) v1 (q1.ts.map shaSum))) :
    ∃ B0 B1 d0 d1, v0 = .slice B0 q1.ts.length d0 ∧ v1 = .slice B1 q1.ts.length d1 ∧ Rw w1 G q1 B0 B1 d0 d1 := by
 rcases hv with ⟨e0, e1, e2⟩ | ⟨k0, k1⟩
 ·refine ⟨A0, A1, c0, c1, by rw [e2]; exact e0, by rw [e2]; exact e1, ⟨?_, ?_, ?_, ?_⟩⟩
  ·rw [e2]; exact h.o0.below hb
  ·rw [e2]; exact h.o1.below hb
  ·rw [e2]; exact h.h0
  ·rw [e2]; exact h.h1
 ·obtain ⟨B0, d0, rfl⟩ := Kd.R_slice k0
  obtain ⟨B1, d1, rfl⟩ := Kd.R_slice k1
  have m0 := (Kd.R_reads' k0).2.1
  have m1 := (Kd.R_reads' k1).2.1
  rw [List.length_map] at m1
  refine ⟨B0, B1, d0, d1, rfl, by rw [List.length_map], ⟨Off.of_R k0 hG, ?_, m0, m1⟩⟩
  have := Off.of_R k1 hG
  rwa [List.length_map] at this
theorem Rw.set {G : Nat → Prop} (h : Rw w G q A0 A1 c0 c1) (p : Addr) (hp : G p.block) (v : Value) : Rw (w.setCell p v) G q A0 A1 c0 c1 :=
  h.kept (S := fun k => k = p.block) (Kept.setCell (p := p) (Kept.refl w (fun k => k = p.block)) (.inl rfl) v) (fun k hk => by rw [hk]; exact hp)
theorem Sh.far (h : Sh P base w g F s) (p : Addr) (hp : ¬ F p.block) (v : Value) : Sh P base (w.setCell p v) g F s := by
 obtain ⟨B, D, vt, vn, hs, hF, hl⟩ := h
 have hg : g ≠ p.block := fun e => hp (by rw [← e]; exact hF _ (.inl rfl))
 have hB : B ≠ p.block := fun e => hp (by rw [← e]; exact hF _ (.inr (.inl rfl)))
 have ht : vt.ownBlock ≠ some p.block := fun e => hp (hF _ (.inr (.inr (.inl e))))
 have hn : vn.ownBlock ≠ some p.block := fun e => hp (hF _ (.inr (.inr (.inr e))))
 have row : ∀ {v0 : Value} {n : Nat} {xs : List Value}, rowW w base v0 n xs → v0.ownBlock ≠ some p.block → rowW (w.setCell p v) base v0 n xs := by
  intro v0 n xs h hne
  rcases h with ⟨h1, h2 | ⟨g1, cap, cur, e, hb, hh, h3⟩⟩
  ·exact ⟨h1, .inl h2⟩
  ·refine ⟨h1, .inr ⟨g1, cap, cur, e, hb, ?_, h3⟩⟩
   rw [Below.heap_setCell _ _ _ _ (fun e2 => hne (by rw [e, ← e2]; rfl))]
   exact hh
 refine ⟨B, D, vt, vn, ⟨by rw [Below.heap_setCell _ _ _ _ hg]; exact hs.blk, hs.map.setCell hB _, hs.says, row hs.rt ht, row hs.rn hn, hs.gb, hs.bb, hs.gB, hs.tg, hs.tB, hs.ng, hs.nB, hs.tn, hs.nd⟩, hF, fun k hk => ⟨(hl k hk).1, by simpa using (hl k hk).2⟩⟩
theorem Sh.kept {S : Nat → Prop} (h : Sh P base w g F s) (hk : Kept w w1 S) (hd : ∀ k, F k → ¬ S k) : Sh P base w1 g F s := by
 obtain ⟨B, D, vt, vn, hs, hF, hl⟩ := h
 have bl : ∀ k, F k → w1.heap[k]? = w.heap[k]? := fun k hk2 => hk.2 k (hl k hk2).2 (hd k hk2)
 have row : ∀ {v0 : Value} {n : Nat} {xs : List Value}, rowW w base v0 n xs → (∀ k, v0.ownBlock = some k → F k) → rowW w1 base v0 n xs := by
  intro v0 n xs h hne
  rcases h with ⟨h1, h2 | ⟨g1, cap, cur, e, hb, hh, h3⟩⟩
  ·exact ⟨h1, .inl h2⟩
  ·exact ⟨h1, .inr ⟨g1, cap, cur, e, hb, (bl g1 (hne g1 (by rw [e]; rfl))).trans hh, h3⟩⟩
 refine ⟨B, D, vt, vn, ⟨(bl g (hF _ (.inl rfl))).trans hs.blk, ?_, hs.says, row hs.rt (fun k e => hF _ (.inr (.inr (.inl e)))), row hs.rn (fun k e => hF _ (.inr (.inr (.inr e)))), hs.gb, hs.bb, hs.gB, hs.tg, hs.tB, hs.ng, hs.nB, hs.tn, hs.nd⟩, hF, fun k hk2 => ⟨(hl k hk2).1, Nat.lt_of_lt_of_le (hl k hk2).2 hk.1⟩⟩
 obtain ⟨es, clock, hb, r⟩ := hs.map
 exact ⟨es, clock, (bl B (hF _ (.inr (.inl rfl)))).trans hb, r⟩
theorem Two.box {b t : Nat} {cs : List Value} (h : Two P base w g F s q A0 A1 c0 c1) (hk : Kept w w1 (fun k => k = b)) (hb : rec_ w b t cs) (ht : t ≠ 9) (hF : ¬ F b) : Two P base w1 g F s q A0 A1 c0 c1 :=
  ⟨h.sh.kept hk (fun k hk e => hF (by rw [← e]; exact hk)), h.o0.other hk hb ht, h.o1.other hk hb ht, h.h0, h.h1⟩
end Go.Proofs.YtikdbklmhjlfoaaDoor.M
end
