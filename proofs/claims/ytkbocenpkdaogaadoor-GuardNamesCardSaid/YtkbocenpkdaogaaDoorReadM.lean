/- How the arguments of a statement read: pointers, cells, memories. -/
import Derived.Test.YtkbocenpkdaogaaDoorRead
import Derived.Test.YtkbocenpkdaogaaDoorCellB
namespace Go.Proofs.YtkbocenpkdaogaaDoor
set_option maxRecDepth 100000
open Go.ChangeShapes Go.WideShapes Go.ChangeAt Go.RowKit

/-- Each row holds a slice. -/
theorem All2.tab {α : Type} {row : Value → α → List Value} {Q : Value → α → Prop} : ∀ {rows : List (List Value)} {l : List α}, All2 (fun cs a => ∃ s, cs = row s a ∧ Q s a) rows l → ∃ vs, All2 Q vs l ∧ rows.flatten = trows row vs l
  | [], [], _ => ⟨[], trivial, rfl⟩
  | r :: rows, a :: l, h => by
    obtain ⟨vs, h1, h2⟩ := All2.tab h.2
    obtain ⟨s, rfl, hq⟩ := h.1
    exact ⟨s :: vs, ⟨hq, h1⟩, by rw [List.flatten_cons, h2]; simp [trows]⟩

section
variable {H : Type} {enc : TypeId × Value → H} {w : World} {base : Nat} {spare : Nat → Bool} {held : Bool}



end

end Go.Proofs.YtkbocenpkdaogaaDoor
