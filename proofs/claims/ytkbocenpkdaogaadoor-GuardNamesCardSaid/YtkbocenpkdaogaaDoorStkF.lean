/- A stack of the call's own stacks is set; what an access of a range gives; no program in sight. -/
import Derived.Test.YtkbocenpkdaogaaDoorStkE
namespace Go.Proofs.YtkbocenpkdaogaaDoor
set_option maxRecDepth 100000
open Go.RowKit

theorem trows_srow : ∀ {vs : List Value} {l : List (List Item)}, vs.length = l.length → trows srow vs l = vs
  | [], [], _ => rfl
  | v :: vs, a :: l, h => by
    have ih := trows_srow (vs := vs) (l := l) (by simpa using h)
    unfold trows at ih ⊢
    simp only [List.zip_cons_cons, List.flatMap_cons, srow] at ih ⊢
    rw [ih]
    rfl

theorem OwnS.set {w wx : World} {B g cap : Nat} {vs : List Value} {l : List (List Item)} {s : Value} {a : List Item} {j : Nat} (h : OwnS w B (.slice (some ⟨g, 0, none⟩) l.length cap) vs l) (hE : Ext w wx) (hR : OwnI wx B s a)
    (hs : ∀ b, s.ownBlock = some b → w.heap.size ≤ b) (hj : j < l.length) : OwnS (wx.setCell ⟨g, j, none⟩ s) B (.slice (some ⟨g, 0, none⟩) (l.set j a).length cap) (vs.set j s) (l.set j a) := by
  have hl := (All2.iff.1 h.inner).1
  have hO := (h.outer.ext hE).set j s
  have hg := (Own.lt h.outer (g := g) rfl).2
  have hS : ExtBut (· = g) wx (wx.setCell ⟨g, j, none⟩ s) := ExtBut.setCell wx ⟨g, j, none⟩ s
  have hold : ∀ x ∈ vs, ∀ b, x.ownBlock = some b → B ≤ b ∧ b < w.heap.size := h.inner_lt
  rw [trows_srow hl] at hO
  refine ⟨?_, ?_, ?_, ?_⟩
  · rw [List.length_set, trows_srow (by simpa using hl)]
    exact hO
  · refine All2.iff.2 ⟨by simpa using hl, fun i x y hx hy => ?_⟩
    by_cases e : i = j
    · subst e
      rw [List.getElem?_set_self (by omega)] at hx hy
      cases hx
      cases hy
      exact OwnI.keep hR hS (fun b e1 e2 => by have := hs b e1; have e2' : b = g := e2; omega)
    · rw [List.getElem?_set_ne (fun e' => e e'.symm)] at hx hy
      refine OwnI.keep (OwnI.keep ((All2.iff.1 h.inner).2 i x y hx hy) (ExtBut.of_ext (S := fun _ => False) hE) (fun _ _ h => h)) hS (fun b e1 e2 => ?_)
      have e2' : b = g := e2
      subst e2'
      exact h.far x (List.mem_of_getElem? hx) b e1 rfl
  · intro i k x y hne hx hy b ex ey
    by_cases e1 : i = j
    · subst e1
      rw [List.getElem?_set_self (by omega)] at hx
      cases hx
      rw [List.getElem?_set_ne hne] at hy
      have := (hold y (List.mem_of_getElem? hy) b ey).2
      have := hs b ex
      omega
    · rw [List.getElem?_set_ne (fun e' => e1 e'.symm)] at hx
      by_cases e2 : k = j
      · subst e2
        rw [List.getElem?_set_self (by omega)] at hy
        cases hy
        have := (hold x (List.mem_of_getElem? hx) b ex).2
        have := hs b ey
        omega
      · rw [List.getElem?_set_ne (fun e' => e2 e'.symm)] at hy
        exact h.apart i k x y hne hx hy b ex ey
  · intro x hx b e1 e2
    cases e2
    rcases List.mem_or_eq_of_mem_set hx with h1 | rfl
    · exact h.far x h1 _ e1 rfl
    · have : w.heap.size ≤ g := hs _ e1
      omega

/-- The rest of an access of a range: m stacks still to do, from the one at j on; 'out' and the reason so far. -/
def eachGo (f : List Item → List Item × Int × Int) (num : Int) (cells : List (List Item)) : Nat → Nat → List (List Item) → Int → Stk × Int × Int
  | 0, _, out, why => if why = 0 then (⟨num, out⟩, 0, 0) else (Stk.zero, why, 0)
  | m + 1, j, out, why => if (f (cells.getD j [])).2.2 = 0 then eachGo f num cells m (j + 1) (out.set j (f (cells.getD j [])).1) (if why = 0 then (f (cells.getD j [])).2.1 else why) else (Stk.zero, 0, (f (cells.getD j [])).2.2)
theorem eachGo_end {f : List Item → List Item × Int × Int} {num : Int} {cells out : List (List Item)} {j : Nat} : eachGo f num cells 0 j out 0 = (⟨num, out⟩, 0, 0) := rfl
theorem eachGo_why {f : List Item → List Item × Int × Int} {num why : Int} {cells out : List (List Item)} {j : Nat} (h : why ≠ 0) : eachGo f num cells 0 j out why = (Stk.zero, why, 0) := if_neg h
theorem eachGo_bad {f : List Item → List Item × Int × Int} {num why : Int} {cells out : List (List Item)} {m j : Nat} {x s : List Item} {v e : Int} (hx : cells[j]? = some x) (hf : f x = (s, v, e)) (he : e ≠ 0) :
    eachGo f num cells (m + 1) j out why = (Stk.zero, 0, e) := by
  have h : cells.getD j [] = x := by rw [List.getD_eq_getElem?_getD, hx]; rfl
  rw [eachGo, h, hf, if_neg he]
theorem eachGo_ok {f : List Item → List Item × Int × Int} {num why : Int} {cells out : List (List Item)} {m j : Nat} {x s : List Item} {v : Int} (hx : cells[j]? = some x) (hf : f x = (s, v, 0)) :
    eachGo f num cells (m + 1) j out why = eachGo f num cells m (j + 1) (out.set j s) (if why = 0 then v else why) := by
  have h : cells.getD j [] = x := by rw [List.getD_eq_getElem?_getD, hx]; rfl
  rw [eachGo, h, hf, if_pos rfl]
/-- An access of a range of valid stacks. -/
def eachR (f : List Item → List Item × Int × Int) (x : Stk) (a n : Nat) : Stk × Int × Int := eachGo f x.num x.cells n a x.cells 0

end Go.Proofs.YtkbocenpkdaogaaDoor
