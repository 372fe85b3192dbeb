/- Contracts: access.use, and the reference's Used. -/
import Derived.Test.YtkbocenpkdaogaaDoorItemsG
import Derived.Test.YtkbocenpkdaogaaDoorItemsF
namespace Go.Proofs.YtkbocenpkdaogaaDoor
set_option maxRecDepth 100000
open Go.RowKit

/-! ### what an access leaves, and what goes -/
/-- A reserved item that is written becomes unique. -/
def actAt (m : List Item) (i : Nat) : List Item :=
  match m[i]? with
  | some x => if x.p = 2 then m.set i ⟨1, x.t, x.c⟩ else m
  | none => m
def useLeft (l : List Item) (i : Nat) (write : Bool) : List Item := if write then actAt (l.take (i + 1)) i else l.take (i + 1) ++ (l.drop (i + 1)).filter (fun x => x.p != 1)
def useGone (l : List Item) (i : Nat) (write : Bool) : List Item := if write then l.drop (i + 1) else (l.drop (i + 1)).filter (fun x => x.p == 1)
def usedL (l : List Item) (tag : Int) (write : Bool) : List Item := match findAt l tag write with | some i => useLeft l i write | none => []
def usedG (l : List Item) (tag : Int) (write : Bool) : List Item := match findAt l tag write with | some i => useGone l i write | none => []
def usedW (l : List Item) (tag : Int) (write : Bool) : Int := match findAt l tag write with | some _ => 0 | none => 1
def accL (l : List Item) (tag : Int) (write : Bool) : List Item := if okS l then usedL l tag write else []
def accG (l : List Item) (tag : Int) (write : Bool) : List Item := if okS l then usedG l tag write else []
def accW (l : List Item) (tag : Int) (write : Bool) : Int := if okS l then usedW l tag write else 0

def mayB (l : List Item) (tag : Int) (write : Bool) : Bool := okS l && (findAt l tag write).isSome
/-- Two slices, a reason, and an error. -/
def RetU (w : World) (l m : List Item) (why n : Int) (en : Ending) (w' : World) : Prop := ∃ v u, en = .returned (.tuple #[v, u, .int .u8 why, .int .i64 n]) ∧ Its w' v l ∧ Its w' u m ∧ Ext w w'
/-- Two slices and a reason. -/
def RetU3 (w : World) (l m : List Item) (why : Int) (en : Ending) (w' : World) : Prop := ∃ v u, en = .returned (.tuple #[v, u, .int .u8 why]) ∧ Its w' v l ∧ Its w' u m ∧ Ext w w'

/-- Both of them are the call's own, and lie apart. -/
def RetUO (w : World) (l m : List Item) (why n : Int) (en : Ending) (w' : World) : Prop := ∃ v u, en = .returned (.tuple #[v, u, .int .u8 why, .int .i64 n]) ∧ Own w' w.heap.size 23 3 v l.length (l.flatMap Item.row) ∧ Own w' w.heap.size 23 3 u m.length (m.flatMap Item.row) ∧ (∀ g, v.ownBlock = some g → u.ownBlock ≠ some g) ∧ Ext w w'
def RetUO3 (w : World) (l m : List Item) (why : Int) (en : Ending) (w' : World) : Prop := ∃ v u, en = .returned (.tuple #[v, u, .int .u8 why]) ∧ Own w' w.heap.size 23 3 v l.length (l.flatMap Item.row) ∧ Own w' w.heap.size 23 3 u m.length (m.flatMap Item.row) ∧ (∀ g, v.ownBlock = some g → u.ownBlock ≠ some g) ∧ Ext w w'
theorem RetUO.weak {w : World} {l m : List Item} {why n : Int} {en : Ending} {w' : World} (h : RetUO w l m why n en w') : RetU w l m why n en w' := by
  obtain ⟨v, u, h1, h2, h3, -, h5⟩ := h
  exact ⟨v, u, h1, h2.sl, h3.sl, h5⟩
theorem RetUO3.weak {w : World} {l m : List Item} {why : Int} {en : Ending} {w' : World} (h : RetUO3 w l m why en w') : RetU3 w l m why en w' := by
  obtain ⟨v, u, h1, h2, h3, -, h5⟩ := h
  exact ⟨v, u, h1, h2.sl, h3.sl, h5⟩
theorem RetUO.none {w w' : World} {why n : Int} (h : Ext w w') : RetUO w [] [] why n (.returned (.tuple #[.slice none 0 0, .slice none 0 0, .int .u8 why, .int .i64 n])) w' := ⟨_, _, rfl, Own.nil _ _ _ _, Own.nil _ _ _ _, (fun g h => by cases h), h⟩

theorem rows_setp (q : Int) : ∀ (l : List Item) (i : Nat) (x : Item), l[i]? = some x → (l.flatMap Item.row).set (i * 3) (.int .u8 q) = (l.set i ⟨q, x.t, x.c⟩).flatMap Item.row
  | [], i, x, h => by simp at h
  | y :: l, 0, x, h => by
    simp only [List.getElem?_cons_zero, Option.some.injEq] at h
    subst h
    rfl
  | y :: l, i + 1, x, h => by
    have ih := rows_setp q l i x (by simpa using h)
    rw [List.flatMap_cons, List.set_cons_succ, List.flatMap_cons, ← ih, List.set_append, if_neg (by rw [Item.row_len]; omega), Item.row_len, show (i + 1) * 3 - 3 = i * 3 by omega]

theorem take_get {l : List Item} {i : Nat} {x : Item} (hx : l[i]? = some x) : (l.take (i + 1))[i]? = some x := by rw [List.getElem?_take, if_pos (by omega), hx]

/-- What holds in the loops that part the items above: what stays has been collected, and what goes. -/
def UseInv (q : Item → Bool) (w0 w3 : World) (lo : Nat) (m n : List Item) (k : Nat) (lf gn : Value) (wr : World) : Prop :=
  (Own wr w0.heap.size 23 3 lf (m ++ (n.take k).filter (fun x => !q x)).length ((m ++ (n.take k).filter (fun x => !q x)).flatMap Item.row) ∧
    Own wr w0.heap.size 23 3 gn ((n.take k).filter q).length (((n.take k).filter q).flatMap Item.row)) ∧
  ((∀ g, lf.ownBlock = some g → g < lo ∨ w3.heap.size ≤ g) ∧ (∀ g, gn.ownBlock = some g → w3.heap.size ≤ g) ∧ (∀ g, lf.ownBlock = some g → gn.ownBlock ≠ some g)) ∧
  Ext w0 wr ∧ w3.heap.size ≤ wr.heap.size ∧ ∀ b, lo ≤ b → b < w3.heap.size → wr.heap[b]? = w3.heap[b]?

theorem UseInv.start {q : Item → Bool} {w0 w3 : World} {lo : Nat} {m n : List Item} {lf : Value} (hE : Ext w0 w3) (h : Own w3 w0.heap.size 23 3 lf m.length (m.flatMap Item.row)) (hlo : ∀ g, lf.ownBlock = some g → g < lo) :
    UseInv q w0 w3 lo m n 0 lf (.slice none 0 0) w3 := by
  refine ⟨⟨?_, ?_⟩, ⟨fun g hg => .inl (hlo g hg), fun g hg => by simp [Value.ownBlock] at hg, fun g _ => by simp [Value.ownBlock]⟩, hE, Nat.le_refl _, fun b _ _ => rfl⟩
  · simpa using h
  · simpa using Own.nil w3 w0.heap.size 23 3

theorem UseInv.above {q : Item → Bool} {w0 w3 : World} {lo : Nat} {m n : List Item} {k : Nat} {lf gn av : Value} {wr : World} (h : UseInv q w0 w3 lo m n k lf gn wr) (hO : Own w3 lo 23 3 av n.length (n.flatMap Item.row)) : Its wr av n :=
  hO.sl.of_block fun g hg => h.2.2.2.2 g (hO.lt hg).1 (hO.lt hg).2

theorem UseInv.left {q : Item → Bool} {w0 w3 : World} {lo : Nat} {m n : List Item} {k : Nat} {lf gn lf' : Value} {wr wx w' : World} {x : Item} (h : UseInv q w0 w3 lo m n k lf gn wr) (hx : n[k]? = some x) (hp : q x = false) (hE : Ext wr wx)
    (hO : Own w' w0.heap.size 23 3 lf' ((m ++ (n.take k).filter (fun x => !q x)).length + 1) ((m ++ (n.take k).filter (fun x => !q x)).flatMap Item.row ++ x.row)) (hK : Keeps wx w' w0.heap.size lf)
    (hb : lf'.ownBlock = lf.ownBlock ∨ ∃ g, lf'.ownBlock = some g ∧ wx.heap.size ≤ g) : UseInv q w0 w3 lo m n (k + 1) lf' gn w' := by
  obtain ⟨⟨h1, h2⟩, ⟨h3, h4, h5⟩, h6, h7, h8⟩ := h
  have e1 : (n.take (k + 1)).filter (fun x => !q x) = (n.take k).filter (fun x => !q x) ++ [x] := by rw [List.take_add_one, hx, List.filter_append]; simp [hp]
  have e2 : (n.take (k + 1)).filter q = (n.take k).filter q := by rw [List.take_add_one, hx, List.filter_append]; simp [hp]
  have hs := hE.size
  have hs' := hK.below.size
  refine ⟨⟨?_, ?_⟩, ⟨?_, h4, ?_⟩, Below.trans (h6.trans hE) hK.below, by omega, fun b hb1 hb2 => ?_⟩
  · rw [e1, ← List.append_assoc, List.length_append, List.flatMap_append]
    simpa using hO
  · rw [e2]
    exact (h2.ext hE).keeps hK (fun g hg e => h5 g e hg)
  · intro g hg
    rcases hb with hb | ⟨g', hb, hge⟩
    · exact h3 g (hb ▸ hg)
    · rw [hb] at hg; cases hg; right; omega
  · intro g hg e
    rcases hb with hb | ⟨g', hb, hge⟩
    · exact h5 g (hb ▸ hg) e
    · rw [hb] at hg; cases hg
      have := (h2.lt e).2
      omega
  · rw [hK.block b (by omega) (fun e => by rcases h3 b e with h | h <;> omega), hE.blk (by omega), h8 b hb1 hb2]

theorem UseInv.gone {q : Item → Bool} {w0 w3 : World} {lo : Nat} {m n : List Item} {k : Nat} {lf gn gn' : Value} {wr wx w' : World} {x : Item} (h : UseInv q w0 w3 lo m n k lf gn wr) (hx : n[k]? = some x) (hp : q x = true) (hE : Ext wr wx)
    (hO : Own w' w0.heap.size 23 3 gn' (((n.take k).filter q).length + 1) (((n.take k).filter q).flatMap Item.row ++ x.row)) (hK : Keeps wx w' w0.heap.size gn)
    (hb : gn'.ownBlock = gn.ownBlock ∨ ∃ g, gn'.ownBlock = some g ∧ wx.heap.size ≤ g) : UseInv q w0 w3 lo m n (k + 1) lf gn' w' := by
  obtain ⟨⟨h1, h2⟩, ⟨h3, h4, h5⟩, h6, h7, h8⟩ := h
  have e1 : (n.take (k + 1)).filter (fun x => !q x) = (n.take k).filter (fun x => !q x) := by rw [List.take_add_one, hx, List.filter_append]; simp [hp]
  have e2 : (n.take (k + 1)).filter q = (n.take k).filter q ++ [x] := by rw [List.take_add_one, hx, List.filter_append]; simp [hp]
  have hs := hE.size
  have hs' := hK.below.size
  refine ⟨⟨?_, ?_⟩, ⟨h3, ?_, ?_⟩, Below.trans (h6.trans hE) hK.below, by omega, fun b hb1 hb2 => ?_⟩
  · rw [e1]
    exact (h1.ext hE).keeps hK (fun g hg e => h5 g hg e)
  · rw [e2, List.length_append, List.flatMap_append]
    simpa using hO
  · intro g hg
    rcases hb with hb | ⟨g', hb, hge⟩
    · exact h4 g (hb ▸ hg)
    · rw [hb] at hg; cases hg; omega
  · intro g hg e
    rcases hb with hb | ⟨g', hb, hge⟩
    · exact h5 g hg (hb ▸ e)
    · rw [hb] at e; cases e
      have := (h1.lt hg).2
      omega
  · rw [hK.block b (by omega) (fun e => by have := h4 b e; omega), hE.blk (by omega), h8 b hb1 hb2]

end Go.Proofs.YtkbocenpkdaogaaDoor
