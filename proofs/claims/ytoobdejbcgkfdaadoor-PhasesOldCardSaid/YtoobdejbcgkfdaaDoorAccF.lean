/- Plain laws of layer 29: how an access parts a stack, index by index. -/
import Derived.Test.YtoobdejbcgkfdaaDoorAccE
namespace Go.Proofs.YtoobdejbcgkfdaaDoor
set_option maxRecDepth 100000
open Go.RowKit

/-- How many of the first k items stay, and how many go. -/
def cN (l : List Item) (i : Nat) (q : Item → Bool) (k : Nat) : Nat := if k ≤ i + 1 then k else i + 1 + (((l.drop (i + 1)).take (k - (i + 1))).filter (fun x => !q x)).length
def cM (l : List Item) (i : Nat) (q : Item → Bool) (k : Nat) : Nat := if k ≤ i + 1 then 0 else (((l.drop (i + 1)).take (k - (i + 1))).filter q).length

theorem filter_take_get {α : Type} {n : List α} {q : α → Bool} {j : Nat} {y : α} (hy : n[j]? = some y) (hq : q y = true) : (n.filter q)[((n.take j).filter q).length]? = some y := by
  have h : n = n.take j ++ y :: n.drop (j + 1) := by
    obtain ⟨hj, rfl⟩ := List.getElem?_eq_some_iff.1 hy
    rw [← List.drop_eq_getElem_cons hj, List.take_append_drop]
  have h2 : n.filter q = (n.take j).filter q ++ y :: (n.drop (j + 1)).filter q := by
    conv => lhs; rw [h]
    rw [List.filter_append, List.filter_cons, if_pos hq]
  rw [h2, List.getElem?_append_right (Nat.le_refl _), Nat.sub_self]
  rfl
theorem filter_take_yes {α : Type} {n : List α} {q : α → Bool} {j : Nat} {y : α} (hy : n[j]? = some y) (hq : q y = true) : ((n.take (j + 1)).filter q).length = ((n.take j).filter q).length + 1 := by
  rw [List.take_add_one, hy, List.filter_append]; simp [hq]
theorem filter_take_no {α : Type} {n : List α} {q : α → Bool} {j : Nat} {y : α} (hy : n[j]? = some y) (hq : q y = false) : ((n.take (j + 1)).filter q).length = ((n.take j).filter q).length := by
  rw [List.take_add_one, hy, List.filter_append]; simp [hq]

theorem parts_low {l M left : List Item} {i : Nat} {q : Item → Bool} (hM : M.length = i + 1) (hl : left = M ++ (l.drop (i + 1)).filter (fun x => !q x)) {k : Nat} (hk : k ≤ i) :
    left[cN l i q k]? = M[k]? ∧ cN l i q (k + 1) = cN l i q k + 1 ∧ cM l i q (k + 1) = cM l i q k := by
  unfold cN cM
  rw [if_pos (by omega), if_pos (by omega), if_pos (by omega), if_pos (by omega), hl, List.getElem?_append_left (by omega)]
  exact ⟨rfl, rfl, rfl⟩

theorem cN_high {l : List Item} {i : Nat} {q : Item → Bool} {k : Nat} (hk : i < k) : cN l i q k = i + 1 + (((l.drop (i + 1)).take (k - (i + 1))).filter (fun x => !q x)).length := by
  unfold cN
  split
  · have : k = i + 1 := by omega
    subst this
    simp
  · rfl
theorem cM_high {l : List Item} {i : Nat} {q : Item → Bool} {k : Nat} (hk : i < k) : cM l i q k = (((l.drop (i + 1)).take (k - (i + 1))).filter q).length := by
  unfold cM
  split
  · have : k = i + 1 := by omega
    subst this
    simp
  · rfl

theorem parts_stay {l M left : List Item} {i : Nat} {q : Item → Bool} (hM : M.length = i + 1) (hl : left = M ++ (l.drop (i + 1)).filter (fun x => !q x)) {k : Nat} {x : Item} (hx : l[k]? = some x) (hk : i < k) (hq : q x = false) :
    left[cN l i q k]? = some x ∧ cN l i q (k + 1) = cN l i q k + 1 ∧ cM l i q (k + 1) = cM l i q k := by
  have hy : (l.drop (i + 1))[k - (i + 1)]? = some x := by rw [List.getElem?_drop, show i + 1 + (k - (i + 1)) = k by omega]; exact hx
  rw [cN_high hk, cN_high (k := k + 1) (by omega), cM_high hk, cM_high (k := k + 1) (by omega), show k + 1 - (i + 1) = k - (i + 1) + 1 by omega, filter_take_yes (q := fun x => !q x) hy (by simp [hq]), filter_take_no hy hq]
  refine ⟨?_, by omega, rfl⟩
  rw [hl, List.getElem?_append_right (by omega), hM, Nat.add_sub_cancel_left]
  exact filter_take_get (q := fun x => !q x) hy (by simp [hq])

theorem parts_go {l gone : List Item} {i : Nat} {q : Item → Bool} (hg : gone = (l.drop (i + 1)).filter q) {k : Nat} {x : Item} (hx : l[k]? = some x) (hk : i < k) (hq : q x = true) :
    gone[cM l i q k]? = some x ∧ cN l i q (k + 1) = cN l i q k ∧ cM l i q (k + 1) = cM l i q k + 1 := by
  have hy : (l.drop (i + 1))[k - (i + 1)]? = some x := by rw [List.getElem?_drop, show i + 1 + (k - (i + 1)) = k by omega]; exact hx
  rw [cN_high hk, cN_high (k := k + 1) (by omega), cM_high hk, cM_high (k := k + 1) (by omega), show k + 1 - (i + 1) = k - (i + 1) + 1 by omega, filter_take_no (q := fun x => !q x) hy (by simp [hq]), filter_take_yes hy hq]
  refine ⟨?_, rfl, rfl⟩
  rw [hg]
  exact filter_take_get hy hq

theorem parts_zero (l : List Item) (i : Nat) (q : Item → Bool) : cN l i q 0 = 0 ∧ cM l i q 0 = 0 := by simp [cN, cM]
theorem parts_end {l M left gone : List Item} {i : Nat} {q : Item → Bool} (hi : i < l.length) (hM : M.length = i + 1) (hl : left = M ++ (l.drop (i + 1)).filter (fun x => !q x)) (hg : gone = (l.drop (i + 1)).filter q) :
    cN l i q l.length = left.length ∧ cM l i q l.length = gone.length ∧ left.length + gone.length = l.length := by
  have ht : (l.drop (i + 1)).take (l.length - (i + 1)) = l.drop (i + 1) := List.take_of_length_le (by simp)
  rw [cN_high hi, cM_high hi, ht, hl, hg, List.length_append, hM]
  refine ⟨rfl, rfl, ?_⟩
  have h1 : ∀ n : List Item, (n.filter (fun x => !q x)).length + (n.filter q).length = n.length := by
    intro n
    induction n with
    | nil => rfl
    | cons y n ih => cases hq : q y <;> simp [hq] <;> omega
  have := h1 (l.drop (i + 1))
  rw [List.length_drop] at this
  omega

theorem actAt_get_ne {m : List Item} {i k : Nat} (h : k ≠ i) : (actAt m i)[k]? = m[k]? := by
  unfold actAt
  split
  · split
    · exact List.getElem?_set_ne (fun e => h e.symm)
    · rfl
  · rfl
theorem actAt_get_yes {m : List Item} {i : Nat} {x : Item} (hx : m[i]? = some x) (hp : x.p = 2) : (actAt m i)[i]? = some ⟨1, x.t, x.c⟩ := by
  unfold actAt
  rw [hx]
  simp only [hp, if_true]
  rw [List.getElem?_set_self (List.getElem?_eq_some_iff.1 hx).1]
theorem actAt_get_no {m : List Item} {i : Nat} {x : Item} (hx : m[i]? = some x) (hp : x.p ≠ 2) : (actAt m i)[i]? = some x := by
  unfold actAt
  rw [hx]
  simp only [hp, if_false]
  exact hx

end Go.Proofs.YtoobdejbcgkfdaaDoor
