/- How a list of numbers among the arguments reads. -/
import Derived.Test.YtkbocenpkdaogaaDoorRead
import Derived.Test.YtkbocenpkdaogaaDoorGrdA
namespace Go.Proofs.YtkbocenpkdaogaaDoor
set_option maxRecDepth 100000
open Go.ChangeShapes Go.WideShapes Go.ChangeAt Go.RowKit

section
variable {H : Type} {enc : TypeId × Value → H} {w : World} {base : Nat} {spare : Nat → Bool} {held : Bool}
theorem rows_of_ints : ∀ {rows : List (List Value)} {l : List Int}, All2 (fun cs (a : Int) => cs = irow a ∧ i64B a) rows l → rows.flatten = l.flatMap irow ∧ ∀ a ∈ l, i64B a
  | [], [], _ => ⟨rfl, fun _ h => by cases h⟩
  | r :: rows, a :: l, h => by
    obtain ⟨h1, h2⟩ := rows_of_ints h.2
    refine ⟨by rw [List.flatten_cons, List.flatMap_cons, h1, h.1.1], fun b hb => ?_⟩
    rcases List.mem_cons.1 hb with rfl | hb
    · exact h.1.2
    · exact h2 b hb
theorem read_ints {t : Nat} (ht : Tryd.prog.underlying t = some (.slice 3)) {n : Nat} {cs : List Value} {x : DataW H × List MemPlace} (h : DataW.trod enc Tryd.prog w base spare held n t cs = some x) :
    ∃ (v : Value) (l : List Int), cs = [v] ∧ Nts w v l ∧ ∀ a ∈ l, i64B a := by
  obtain ⟨v, rows, l, rfl, hs, _, ha⟩ := read_slice (k := 1) ht (by kernel_rfl) (by omega) (fun cs (a : Int) => cs = irow a ∧ i64B a) (fun n cs x hl h => by
    obtain ⟨a, e, _, hw⟩ := DataW.trod_int Tryd.underlying3 h
    exact ⟨a, e, by simpa [Lit.wf, IntKind.min, IntKind.max, IntKind.signed, IntKind.bits, i64B] using hw⟩) h
  obtain ⟨e, hw⟩ := rows_of_ints ha
  refine ⟨v, l, rfl, ?_, hw⟩
  unfold Nts
  rw [← e, ← ha.length]
  exact hs
theorem open_ints' {t : Nat} (ht : Tryd.prog.underlying t = some (.slice 3)) {r : Reach} {b0 : Nat} {v : Value} {d : DataW H} {p : List MemPlace} (hv : Value.okWide Tryd.prog w r b0 t v) (h : DataW.Trod enc Tryd.prog w base spare held t v d p) :
    ∃ l : List Int, Nts w v l ∧ ∀ a ∈ l, i64B a := by
  obtain ⟨a0, len, cap, rfl⟩ := okWide_slice ht hv
  obtain ⟨n, hn⟩ := h
  obtain ⟨u, l, e, hl, hw⟩ := read_ints ht hn
  simp only [Value.cells, List.cons.injEq, and_true] at e
  subst e
  exact ⟨l, hl, hw⟩
end

end Go.Proofs.YtkbocenpkdaogaaDoor
