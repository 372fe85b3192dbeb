/- Plain laws of layer 29: what an access leaves, no program in sight. -/
import Derived.Test.YtkbocenpkdaogaaDoorAccA
namespace Go.Proofs.YtkbocenpkdaogaaDoor
set_option maxRecDepth 100000
open Go.RowKit

/-! ### the greatest index, again -/
theorem findAt_some {l : List Item} {tag : Int} {write : Bool} {i : Nat} {x : Item} (hx : l[i]? = some x) (hg : grants tag write x = true) (hn : ∀ (j : Nat) (y : Item), i < j → l[j]? = some y → grants tag write y = false) : findAt l tag write = some i := by
  refine lastUpTo_some (List.getElem?_eq_some_iff.1 hx).1 (by simp [hx, hg]) fun j h1 h2 => ?_
  have hy : l[j]? = some l[j] := by simp [h2]
  rw [hy]
  simpa using hn j _ h1 hy

theorem findAt_isSome (l : List Item) (tag : Int) (write : Bool) : (findAt l tag write).isSome = l.any (grants tag write) := by
  cases hf : findAt l tag write with
  | none =>
    symm
    simp only [Option.isSome_none, List.any_eq_false]
    intro x hx
    obtain ⟨j, hj⟩ := List.mem_iff_getElem?.1 hx
    simp [findAt_no hf j x hj]
  | some i =>
    obtain ⟨x, hx, hg, -⟩ := findAt_is hf
    symm
    simp only [Option.isSome_some, List.any_eq_true]
    exact ⟨x, List.mem_of_getElem? hx, hg⟩

theorem mayB_any (l : List Item) (tag : Int) (write : Bool) : mayB l tag write = (okS l && l.any (grants tag write)) := by rw [mayB, findAt_isSome]

theorem mayB_read {l : List Item} {tag : Int} (h : mayB l tag true = true) : mayB l tag false = true := by
  rw [mayB_any] at *
  simp only [Bool.and_eq_true, List.any_eq_true] at *
  obtain ⟨h1, x, h2, h3⟩ := h
  refine ⟨h1, x, h2, ?_⟩
  unfold grants at *
  simp at *
  exact h3.1

/-! ### what is left -/
theorem actAt_len (m : List Item) (i : Nat) : (actAt m i).length = m.length := by
  unfold actAt; split
  · split <;> simp
  · rfl
theorem useLeft_len (l : List Item) (i : Nat) (write : Bool) : (useLeft l i write).length ≤ l.length := by
  unfold useLeft
  cases write
  · simp only [Bool.false_eq_true, if_false, List.length_append]
    have := List.length_filter_le (fun x : Item => x.p != 1) (l.drop (i + 1))
    rw [List.length_drop] at this
    rw [List.length_take]
    omega
  · simp only [if_true, actAt_len, List.length_take]
    omega

theorem useLeft_pos {l : List Item} {i : Nat} {write : Bool} {tag : Int} (h : ∃ x, l[i]? = some x ∧ grants tag write x = true ∧ ∀ (j : Nat) (y : Item), i < j → l[j]? = some y → grants tag write y = false) : 0 < (useLeft l i write).length := by
  obtain ⟨x, hx, -⟩ := h
  have hi : i < l.length := (List.getElem?_eq_some_iff.1 hx).1
  unfold useLeft
  cases write
  · simp only [Bool.false_eq_true, if_false, List.length_append, List.length_take]
    omega
  · simp only [if_true, actAt_len, List.length_take]
    omega

/-- Each item that is left was there, but for a reserved one that became unique. -/
theorem useLeft_mem {l : List Item} {i : Nat} {write : Bool} {y : Item} (hy : y ∈ useLeft l i write) : y ∈ l ∨ ∃ x ∈ l, x.p = 2 ∧ y = ⟨1, x.t, x.c⟩ := by
  unfold useLeft at hy
  cases write
  · simp only [Bool.false_eq_true, if_false, List.mem_append, List.mem_filter] at hy
    rcases hy with h | ⟨h, -⟩
    · exact .inl (List.mem_of_mem_take h)
    · exact .inl (List.mem_of_mem_drop h)
  · simp only [if_true] at hy
    unfold actAt at hy
    split at hy
    · rename_i x hx
      split at hy
      · rename_i hp
        rcases List.mem_or_eq_of_mem_set hy with h | h
        · exact .inl (List.mem_of_mem_take h)
        · exact .inr ⟨x, List.mem_of_mem_take (List.mem_of_getElem? hx), hp, h⟩
      · exact .inl (List.mem_of_mem_take hy)
    · exact .inl (List.mem_of_mem_take hy)

theorem useLeft_ok {l : List Item} {i : Nat} {write : Bool} (h : okS l = true) : okS (useLeft l i write) = true := by
  unfold okS at *
  simp only [Bool.and_eq_true, decide_eq_true_eq, List.all_eq_true] at *
  refine ⟨Nat.le_trans (useLeft_len _ _ _) h.1, fun y hy => ?_⟩
  rcases useLeft_mem hy with h1 | ⟨x, h1, h2, rfl⟩
  · exact h.2 y h1
  · have := h.2 x h1
    unfold Item.ok at *
    simp [h2] at *
    exact this

theorem useLeft_may {l : List Item} {i : Nat} {write : Bool} {other : Int} {and' : Bool} (h : okS l = true) (hm : mayB (useLeft l i write) other and' = true) : mayB l other and' = true := by
  rw [mayB_any] at *
  simp only [Bool.and_eq_true, List.any_eq_true] at *
  obtain ⟨-, y, h2, h3⟩ := hm
  refine ⟨h, ?_⟩
  rcases useLeft_mem h2 with h1 | ⟨x, h1, h2, rfl⟩
  · exact ⟨y, h1, h3⟩
  · refine ⟨x, h1, ?_⟩
    unfold grants at *
    simp [h2] at *
    exact ⟨h3, .inr (by omega)⟩

/-! ### an access again -/
/-- Made again, an access changes nothing. -/
theorem use_again {l : List Item} {tag : Int} {write : Bool} {i : Nat} (h : okS l = true) (hf : findAt l tag write = some i) :
    chk (useLeft l i write) = 0 ∧ accW (useLeft l i write) tag write = 0 ∧ accL (useLeft l i write) tag write = useLeft l i write ∧ accG (useLeft l i write) tag write = [] := by
  obtain ⟨x, hx, hg, hn⟩ := findAt_is hf
  have hi : i < l.length := (List.getElem?_eq_some_iff.1 hx).1
  have hok := useLeft_ok (i := i) (write := write) h
  suffices hs : findAt (useLeft l i write) tag write = some i ∧ useLeft (useLeft l i write) i write = useLeft l i write ∧ useGone (useLeft l i write) i write = [] by
    obtain ⟨h1, h2, h3⟩ := hs
    refine ⟨by simp [chk, hok], by simp [accW, hok, usedW, h1], by simp [accL, hok, usedL, h1, h2], by simp [accG, hok, usedG, h1, h3]⟩
  have ht : (l.take (i + 1)).length = i + 1 := by rw [List.length_take]; omega
  cases write
  · have e : useLeft l i false = l.take (i + 1) ++ (l.drop (i + 1)).filter (fun x => x.p != 1) := rfl
    rw [e]
    refine ⟨findAt_some (x := x) ?_ hg fun j y hj hy => ?_, ?_, ?_⟩
    · rw [List.getElem?_append_left (by omega)]; exact take_get hx
    · rw [List.getElem?_append_right (by omega)] at hy
      have h1 := (List.mem_filter.1 (List.mem_of_getElem? hy)).1
      obtain ⟨j', hj'⟩ := List.mem_iff_getElem?.1 h1
      rw [List.getElem?_drop] at hj'
      exact hn _ y (by omega) hj'
    · simp only [useLeft, Bool.false_eq_true, if_false]
      rw [List.take_append_of_le_length (by omega), List.drop_append_of_le_length (by omega), List.take_of_length_le (l := l.take (i + 1)) (by omega), List.drop_of_length_le (l := l.take (i + 1)) (by omega)]
      simp
    · simp only [useGone, Bool.false_eq_true, if_false]
      rw [List.drop_append_of_le_length (by omega), List.drop_of_length_le (l := l.take (i + 1)) (by omega)]
      simp
  · have e : useLeft l i true = actAt (l.take (i + 1)) i := rfl
    have hl : (actAt (l.take (i + 1)) i).length = i + 1 := by rw [actAt_len, ht]
    have hp4 : x.p ≠ 4 := by unfold grants at hg; intro e; simp [e] at hg
    have hxt : x.t = tag := by unfold grants at hg; simp at hg; exact hg.1
    obtain ⟨z, hz, hzg, hz2⟩ : ∃ z : Item, (actAt (l.take (i + 1)) i)[i]? = some z ∧ grants tag true z = true ∧ z.p ≠ 2 := by
      unfold actAt
      rw [take_get hx]
      by_cases hp : x.p = 2
      · simp only [hp, if_true]
        exact ⟨⟨1, x.t, x.c⟩, by rw [List.getElem?_set_self (by omega)], by simp [grants, hxt], by simp⟩
      · simp only [hp, if_false]
        exact ⟨x, take_get hx, hg, hp⟩
    rw [e]
    refine ⟨findAt_some hz hzg fun j y hj hy => ?_, ?_, ?_⟩
    · have := (List.getElem?_eq_some_iff.1 hy).1
      omega
    · have e2 : useLeft (actAt (l.take (i + 1)) i) i true = actAt ((actAt (l.take (i + 1)) i).take (i + 1)) i := rfl
      rw [e2, List.take_of_length_le (l := actAt (l.take (i + 1)) i) (by omega)]
      generalize actAt (l.take (i + 1)) i = q at hz ⊢
      unfold actAt
      rw [hz]
      simp [hz2]
    · show (actAt (l.take (i + 1)) i).drop (i + 1) = []
      exact List.drop_of_length_le (by omega)

/-- The topmost item after a write. -/
theorem use_top {l : List Item} {tag : Int} {i : Nat} (h : okS l = true) (hf : findAt l tag true = some i) : ∃ z : Item, (useLeft l i true)[i]? = some z ∧ (useLeft l i true).length = i + 1 ∧ z.t = tag ∧ (z.p = 1 ∨ z.p = 3) := by
  obtain ⟨x, hx, hg, hn⟩ := findAt_is hf
  have hi : i < l.length := (List.getElem?_eq_some_iff.1 hx).1
  have ht : (l.take (i + 1)).length = i + 1 := by rw [List.length_take]; omega
  have e : useLeft l i true = actAt (l.take (i + 1)) i := rfl
  have hp4 : x.p ≠ 4 := by unfold grants at hg; intro e; simp [e] at hg
  have hxt : x.t = tag := by unfold grants at hg; simp at hg; exact hg.1
  have hox : x.ok = true := by
    unfold okS at h
    simp only [Bool.and_eq_true, List.all_eq_true] at h
    exact h.2 x (List.mem_of_getElem? hx)
  have hp : x.p = 1 ∨ x.p = 2 ∨ x.p = 3 := by
    unfold Item.ok at hox
    simp at hox
    omega
  rw [e, actAt_len, ht]
  unfold actAt
  rw [take_get hx]
  by_cases hp2 : x.p = 2
  · simp only [hp2, if_true]
    exact ⟨⟨1, x.t, x.c⟩, by rw [List.getElem?_set_self (by omega)], by simp, hxt, .inl rfl⟩
  · simp only [hp2, if_false]
    exact ⟨x, take_get hx, by simp, hxt, by omega⟩

end Go.Proofs.YtkbocenpkdaogaaDoor
