/- Contracts: the reference of layer 28, and slices.Clone of items. -/
import Derived.Test.YtkbocenpkdaogaaDoorItemsA
import Derived.BigQuiet
import Derived.Deep.QuietTactic
namespace Go.Proofs.YtkbocenpkdaogaaDoor
set_option maxRecDepth 100000
open Go.RowKit

/-! ### posts -/
/-- It hands back a new slice that reads as l. -/
def RetL (e : TypeId) (w : World) (l : List Item) (en : Ending) (w' : World) : Prop := ∃ v, en = .returned v ∧ Own w' w.heap.size e 3 v l.length (l.flatMap Item.row) ∧ Ext w w'
/-- .. and a number. -/
def RetLN (e : TypeId) (w : World) (l : List Item) (n : Int) (en : Ending) (w' : World) : Prop := ∃ v, en = .returned (.tuple #[v, .int .i64 n]) ∧ Own w' w.heap.size e 3 v l.length (l.flatMap Item.row) ∧ Ext w w'

theorem Item.infoE : ∃ i z, Tryd.prog.info? 23 = some i ∧ i.zero = some z ∧ i.size = 3 ∧ z.cells.size = 3 ∧ i.bytes = 24 := by
  have h : (Tryd.prog.info? 23).map (fun i => (i.zero.map (fun z => z.cells.size), i.size, i.bytes)) = some (some 3, 3, 24) := by kernel_rfl
  cases hi : Tryd.prog.info? 23 with
  | none => rw [hi] at h; simp at h
  | some i =>
    rw [hi] at h
    simp only [Option.map_some, Option.some.injEq, Prod.mk.injEq] at h
    obtain ⟨h1, h2, h3⟩ := h
    cases hz : i.zero with
    | none => rw [hz] at h1; simp at h1
    | some z =>
      rw [hz] at h1
      exact ⟨i, z, rfl, hz, h2, by simpa using h1, h3⟩



theorem all_take_succ {α : Type} {p : α → Bool} {l : List α} {k : Nat} {x : α} (h : (l.take k).all p = true) (hx : l[k]? = some x) (hp : p x = true) : (l.take (k + 1)).all p = true := by
  rw [List.take_add_one, hx]
  simp [List.all_append, h, hp]
theorem all_miss {α : Type} {p : α → Bool} {l : List α} {k : Nat} {x : α} (hx : l[k]? = some x) (hp : p x = false) : l.all p = false := by
  rw [List.all_eq_false]
  exact ⟨x, List.mem_of_getElem? hx, by simp [hp]⟩



end Go.Proofs.YtkbocenpkdaogaaDoor
