/- An access of a range of two stacks, both ways about, for a loop of two rounds; no program in sight. (printed by gen/order33.py) -/
import Derived.Test.YtjfkfibhgilolaaDoorStkM
namespace Go.Proofs.YtjfkfibhgilolaaDoor
set_option maxRecDepth 100000
open Go.RowKit

theorem order_all {num what tag yn : Int} {l yl : List (List Item)} {run : List Int} (hl : l.length = 2) (h : useA ⟨num, l⟩ what 0 2 tag run = (⟨yn, yl⟩, 0, 0)) :
    num = yn ∧ stkErr ⟨num, yl⟩ = 0 ∧ ∀ i : Nat, i < 2 → ∃ M, useA ⟨num, l⟩ what i 1 tag run = (⟨num, M⟩, 0, 0) ∧ useA ⟨num, M⟩ what (1 - (i : Int)) 1 tag run = (⟨num, yl⟩, 0, 0) := by
  match l, hl with
  | [a, b], _ =>
    obtain ⟨c, d, e, hk, h1, h2, h3, h4⟩ := order_law h
    cases e
    refine ⟨rfl, by rw [stkErr, if_pos hk], fun i hi => ?_⟩
    match i, hi with
    | 0, _ => exact ⟨_, h1, h2⟩
    | 1, _ => exact ⟨_, h3, h4⟩

end Go.Proofs.YtjfkfibhgilolaaDoor
