/- What is read from the blocks of an interval alone; no program in sight. -/
import Derived.Test.YtkbocenpkdaogaaDoorTab
namespace Go.Proofs.YtkbocenpkdaogaaDoor
set_option maxRecDepth 100000
open Go.RowKit

/-- R holds of w, and of each world whose blocks from B on, below T, are those of w. -/
def Foot (B T : Nat) (w : World) (R : World → Prop) : Prop := ∀ w'' : World, (∀ b, B ≤ b → b < T → w''.heap[b]? = w.heap[b]?) → R w''

section
variable {B B' T T' : Nat} {w w' : World} {R R' : World → Prop}
theorem Foot.read (h : Foot B T w R) : R w := h w fun _ _ _ => rfl
theorem Foot.of_all (h : ∀ w, R w) : Foot B T w R := fun w'' _ => h w''
theorem Foot.mono (h : Foot B T w R) (hB : B' ≤ B) (hT : T ≤ T') : Foot B' T' w R := fun w'' hb => h w'' fun b h1 h2 => hb b (Nat.le_trans hB h1) (Nat.lt_of_lt_of_le h2 hT)
theorem Foot.imp (h : Foot B T w R) (hr : ∀ w, R w → R' w) : Foot B T w R' := fun w'' hb => hr _ (h w'' hb)
theorem Foot.keep (h : Foot B T w R) (hb : ∀ b, B ≤ b → b < T → w'.heap[b]? = w.heap[b]?) : Foot B T w' R := fun w'' h2 => h w'' fun b h3 h4 => (h2 b h3 h4).trans (hb b h3 h4)
theorem Foot.ext (h : Foot B T w R) (hE : Ext w w') (hT : T ≤ w.heap.size) : Foot B T w' R := h.keep fun _ _ h2 => hE.blk (Nat.lt_of_lt_of_le h2 hT)
theorem Foot.but {S : Nat → Prop} (h : Foot B T w R) (hE : ExtBut S w w') (hT : T ≤ w.heap.size) (hS : ∀ b, S b → b < B ∨ T ≤ b) : Foot B T w' R :=
  h.keep fun b h1 h2 => hE.block b (Nat.lt_of_lt_of_le h2 hT) fun hs => by rcases hS b hs with h | h <;> omega
theorem Foot.set (h : Foot B T w R) {p : Addr} (hp : p.block < B ∨ T ≤ p.block) (u : Value) : Foot B T (w.setCell p u) R :=
  h.keep fun b h1 h2 => Below.heap_setCell _ _ _ _ (fun e => by subst e; rcases hp with h | h <;> omega)
end

theorem Sl.foot {w : World} {B k n : Nat} {v : Value} {xs : List Value} (h : Sl w k v n xs) {T : Nat} (hg : ∀ g, v.ownBlock = some g → B ≤ g ∧ g < T) : Foot B T w (fun w => Sl w k v n xs) :=
  fun _ hb => h.of_block fun g e => hb g (hg g e).1 (hg g e).2
theorem Own.foot {w : World} {B T : Nat} {e : TypeId} {k : Nat} {v : Value} {n : Nat} {xs : List Value} (h : Own w B e k v n xs) (hT : w.heap.size ≤ T) : Foot B T w (fun w => Sl w k v n xs) :=
  h.sl.foot fun g hg => ⟨(h.lt hg).1, Nat.lt_of_lt_of_le (h.lt hg).2 hT⟩
theorem Own.footI {w : World} {B T : Nat} {e : TypeId} {v : Value} {l : List Item} (h : Own w B e 3 v l.length (l.flatMap Item.row)) (hT : w.heap.size ≤ T) : Foot B T w (fun w => Its w v l) := h.foot hT
theorem Foot.its_nil {B T : Nat} {w : World} : Foot B T w (fun w => Its w (.slice none 0 0) []) := Foot.of_all Its.nil

/-- What each cell of w holds, w' holds there. -/
def CExt (w w' : World) : Prop := ∀ (p : Addr) (v : Value), w.cell? p = some v → w'.cell? p = some v
theorem Sl.cext {w w' : World} {k n : Nat} {v : Value} {xs : List Value} (h : Sl w k v n xs) (hc : CExt w w') : Sl w' k v n xs := by
  obtain ⟨h1, a, cap, h2, h3, h4, h5, h6⟩ := h
  refine ⟨h1, a, cap, h2, h3, h4, h5, fun j u hj => ?_⟩
  obtain ⟨b, off, e, hcell⟩ := h6 j u hj
  exact ⟨b, off, e, hc _ _ hcell⟩
theorem Tb.cext {α : Type} {row : Value → α → List Value} {k : Nat} {R R' : Value → α → Prop} {w w' : World} {v : Value} {l : List α} (h : Tb row k R w v l) (hc : CExt w w') (hr : ∀ s a, R s a → R' s a) : Tb row k R' w' v l := by
  obtain ⟨vs, h1, h2⟩ := h
  exact ⟨vs, h1.mono hr, h2.cext hc⟩

/-- What holds of every world that extends w' but for old blocks holds by the interval of the new ones. -/
theorem Foot.of_but {B : Nat} {w' : World} {R : World → Prop} (hR : ∀ w1 w2, CExt w1 w2 → R w1 → R w2) (h : ∀ w'' : World, ExtBut (fun b => b < B) w' w'' → R w'') : Foot B w'.heap.size w' R := by
  intro w'' hb
  have hx : CExt { w' with heap := w''.heap ++ Array.replicate (w'.heap.size - w''.heap.size) (.cells #[] 0 (0, 0)) } w'' := by
    intro p v hv
    by_cases hp : p.block < w''.heap.size
    · rw [← hv]
      exact (World.cell?_of_block (by show (w''.heap ++ _)[p.block]? = _; rw [Array.getElem?_append_left hp])).symm
    · exfalso
      have hn : (w''.heap ++ Array.replicate (w'.heap.size - w''.heap.size) (Obj.cells #[] 0 (0, 0)))[p.block]? = none ∨ (w''.heap ++ Array.replicate (w'.heap.size - w''.heap.size) (Obj.cells #[] 0 (0, 0)))[p.block]? = some (.cells #[] 0 (0, 0)) := by
        rw [Array.getElem?_append_right (by omega), Array.getElem?_replicate]
        split
        · exact .inr rfl
        · exact .inl rfl
      rcases hn with hn | hn <;> simp [World.cell?, hn] at hv
  refine hR _ _ hx (h _ ⟨rfl, rfl, rfl, ?_, fun b hlt hS => ?_⟩)
  · show w'.heap.size ≤ (w''.heap ++ _).size
    rw [Array.size_append, Array.size_replicate]; omega
  · have e := hb b (by omega) hlt
    have hlt2 : b < w''.heap.size := by
      rcases Nat.lt_or_ge b w''.heap.size with h | h
      · exact h
      · rw [Array.getElem?_eq_none h, Array.getElem?_eq_getElem hlt] at e; cases e
    show (w''.heap ++ _)[b]? = _
    rw [Array.getElem?_append_left hlt2, e]

end Go.Proofs.YtkbocenpkdaogaaDoor
