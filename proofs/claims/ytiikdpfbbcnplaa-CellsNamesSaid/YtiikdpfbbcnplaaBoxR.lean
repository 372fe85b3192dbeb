/- Worlds that differ in new blocks and in the contents of fresh variables of one type. -/
import Derived.Test.YtiikdpfbbcnplaaRegInr
import Derived.Test.YtiikdpfbbcnplaaTab
namespace Go.Proofs.Ytiikdpfbbcnplaa
set_option maxRecDepth 100000
open Go.RowKit

/-- A block of a variable: its type and its cells' number. -/
def BoxT (T : TypeId) (n : Nat) (w : World) (b : Nat) : Prop := ∃ vs : Array Value, vs.size = n ∧ Box w b T vs
/-- All is as it was, but for new blocks, and for variables of that type from N on. -/
structure BxR (N : Nat) (T : TypeId) (n : Nat) (w w' : World) : Prop where
  os : w'.os = w.os
  tape : w'.tape = w.tape
  output : w'.output = w.output
  size : w.heap.size ≤ w'.heap.size
  block : ∀ b, b < w.heap.size → w'.heap[b]? = w.heap[b]? ∨ (N ≤ b ∧ BoxT T n w b ∧ BoxT T n w' b)
section
variable {N n : Nat} {T : TypeId} {w w' w'' : World}
theorem BxR.refl (w : World) : BxR N T n w w := ⟨rfl, rfl, rfl, Nat.le_refl _, fun _ _ => .inl rfl⟩
theorem BoxT.lt {b : Nat} (h : BoxT T n w b) : b < w.heap.size := by
  obtain ⟨vs, -, h⟩ := h
  exact h.lt
theorem BxR.boxT {b : Nat} (h : BxR N T n w w') (hb : BoxT T n w b) : BoxT T n w' b := by
  rcases h.block b hb.lt with h1 | ⟨-, -, h1⟩
  · obtain ⟨vs, h2, h3⟩ := hb
    exact ⟨vs, h2, h1.trans h3⟩
  · exact h1
theorem BxR.trans (h : BxR N T n w w') (k : BxR N T n w' w'') : BxR N T n w w'' := by
  refine ⟨k.os.trans h.os, k.tape.trans h.tape, k.output.trans h.output, Nat.le_trans h.size k.size, fun b hb => ?_⟩
  rcases k.block b (Nat.lt_of_lt_of_le hb h.size) with k1 | ⟨k1, k2, k3⟩
  · rcases h.block b hb with h1 | ⟨h1, h2, h3⟩
    · exact .inl (k1.trans h1)
    · refine .inr ⟨h1, h2, ?_⟩
      obtain ⟨vs, e1, e2⟩ := h3
      exact ⟨vs, e1, k1.trans e2⟩
  · rcases h.block b hb with h1 | ⟨h1, h2, h3⟩
    · refine .inr ⟨k1, ?_, k3⟩
      obtain ⟨vs, e1, e2⟩ := k2
      exact ⟨vs, e1, h1.symm.trans e2⟩
    · exact .inr ⟨h1, h2, k3⟩
theorem BxR.of_ext (h : Ext w w') : BxR N T n w w' := ⟨h.os, h.tape, h.output, h.size, fun _ hb => .inl (h.blk hb)⟩
theorem BxR.to_ext (h : BxR N T n w w') (hN : w.heap.size ≤ N) : Ext w w' := ⟨h.os, h.tape, h.output, h.size, fun b hb => by rcases h.block b hb with h1 | ⟨h1, -, -⟩; exact h1; omega⟩
theorem BxR.set {b : Nat} (hb : BoxT T n w b) (hN : N ≤ b) (j : Nat) (u : Value) : BxR N T n w (w.setCell ⟨b, j, none⟩ u) := by
  have hE := ExtBut.setCell w ⟨b, j, none⟩ u
  refine ⟨hE.os, hE.tape, hE.output, hE.size, fun c hc => ?_⟩
  by_cases e : c = b
  · subst e
    obtain ⟨vs, h1, h2⟩ := hb
    exact .inr ⟨hN, ⟨vs, h1, h2⟩, ⟨_, by simpa using h1, h2.set j u⟩⟩
  · exact .inl (hE.block c hc e)
theorem Sl.bxr {k m : Nat} {v : Value} {xs : List Value} (h : Sl w k v m xs) (hx : n < xs.length) (hR : BxR N T n w w') : Sl w' k v m xs := by
  obtain ⟨h1, a, cap, h2, h3, h4, h5, h6⟩ := h
  obtain ⟨b, off, rfl, hc0⟩ := h6 n _ (List.getElem?_eq_getElem hx)
  have hb := World.block_lt_of_cell? _ _ hc0
  have hsame : w'.heap[b]? = w.heap[b]? := by
    rcases hR.block b hb with h7 | ⟨-, ⟨vs, e1, e2⟩, -⟩
    · exact h7
    · exfalso
      rw [e2.cell, Array.getElem?_eq_none (by omega)] at hc0
      cases hc0
  refine ⟨h1, _, cap, h2, h3, h4, h5, fun j u hj => ?_⟩
  obtain ⟨b', off', e, hc⟩ := h6 j u hj
  cases e
  exact ⟨b, off, rfl, by rw [← hc]; exact World.cell?_of_block hsame⟩
end
/-- The same, and what such a variable holds now is X. -/
structure BxX (N : Nat) (T : TypeId) (n : Nat) (X : World → Array Value → Prop) (w w' : World) : Prop where
  os : w'.os = w.os
  tape : w'.tape = w.tape
  output : w'.output = w.output
  size : w.heap.size ≤ w'.heap.size
  block : ∀ b, b < w.heap.size → w'.heap[b]? = w.heap[b]? ∨ (N ≤ b ∧ BoxT T n w b ∧ ∃ vs, vs.size = n ∧ Box w' b T vs ∧ X w' vs)
section
variable {N n : Nat} {T : TypeId} {X : World → Array Value → Prop} {w w' w'' : World}
theorem BxX.refl (w : World) : BxX N T n X w w := ⟨rfl, rfl, rfl, Nat.le_refl _, fun _ _ => .inl rfl⟩
theorem BxX.rel (h : BxX N T n X w w') : BxR N T n w w' := ⟨h.os, h.tape, h.output, h.size, fun b hb => (h.block b hb).imp id fun ⟨h1, h2, vs, h3, h4, _⟩ => ⟨h1, h2, vs, h3, h4⟩⟩
theorem BxX.trans (hX : ∀ w w' vs, X w vs → BxR N T n w w' → X w' vs) (h : BxX N T n X w w') (k : BxX N T n X w' w'') : BxX N T n X w w'' := by
  refine ⟨k.os.trans h.os, k.tape.trans h.tape, k.output.trans h.output, Nat.le_trans h.size k.size, fun b hb => ?_⟩
  rcases k.block b (Nat.lt_of_lt_of_le hb h.size) with k1 | ⟨k1, k2, k3⟩
  · rcases h.block b hb with h1 | ⟨h1, h2, vs, h3, h4, h5⟩
    · exact .inl (k1.trans h1)
    · exact .inr ⟨h1, h2, vs, h3, k1.trans h4, hX _ _ _ h5 k.rel⟩
  · rcases h.block b hb with h1 | ⟨h1, h2, -⟩
    · refine .inr ⟨k1, ?_, k3⟩
      obtain ⟨vs, e1, e2⟩ := k2
      exact ⟨vs, e1, h1.symm.trans e2⟩
    · exact .inr ⟨h1, h2, k3⟩
theorem BxX.of_ext (h : Ext w w') : BxX N T n X w w' := ⟨h.os, h.tape, h.output, h.size, fun _ hb => .inl (h.blk hb)⟩
theorem BxX.to_ext (h : BxX N T n X w w') (hN : w.heap.size ≤ N) : Ext w w' := h.rel.to_ext hN
theorem BxX.but {b : Nat} (hE : ExtBut (· = b) w w') (hb : BoxT T n w b) (hN : N ≤ b) {vs : Array Value} (hs : vs.size = n) (hB : Box w' b T vs) (hX : X w' vs) : BxX N T n X w w' :=
  ⟨hE.os, hE.tape, hE.output, hE.size, fun c hc => by
    by_cases e : c = b
    · subst e; exact .inr ⟨hN, hb, vs, hs, hB, hX⟩
    · exact .inl (hE.block c hc e)⟩
def PrR.up {N n : Nat} {T : TypeId} {X : World → Array Value → Prop} (q : PrR (BxR N T n)) : PrR (BxX N T n X) := ⟨q.p, fun v w w' h hR => q.m v w w' h hR.rel⟩
end
def PrRB (N : Nat) (T : TypeId) (n : Nat) : PrR (BxR N T n) := ⟨fun v w => ∃ b, v = .pointer (some ⟨b, 0, none⟩) ∧ N ≤ b ∧ BoxT T n w b, fun _ _ _ ⟨b, h1, h2, h3⟩ hR => ⟨b, h1, h2, hR.boxT h3⟩⟩

end Go.Proofs.Ytiikdpfbbcnplaa
