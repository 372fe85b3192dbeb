/- What protects an allocation, item by item; fewer calls; no program in sight. (printed by gen/dea34d.py) -/
import Derived.Test.YtjfkfibhgilolaaDoorDeaE
import Derived.Test.YtjfkfibhgilolaaDoorLaw31B
namespace Go.Proofs.YtjfkfibhgilolaaDoor
set_option maxRecDepth 100000
open Go.RowKit

theorem keptL_append (a b : List (List Item)) (run : List Int) : keptL (a ++ b) run = keptL a run ++ keptL b run := List.flatMap_append
theorem kept_at {l : List (List Item)} {x : List Item} {y : Item} {run : List Int} {i k : Nat} (hx : l[i]? = some x) (hy : x[k]? = some y) (hh : heldBy run y = true) :
    (keptL l run)[(keptL (l.take i) run).length + ((x.take k).filter (heldBy run)).length]? = some y := by
  obtain ⟨hi, rfl⟩ := List.getElem?_eq_some_iff.1 hx
  obtain ⟨hk, rfl⟩ := List.getElem?_eq_some_iff.1 hy
  have e1 : l = l.take i ++ l[i] :: l.drop (i + 1) := by rw [← List.drop_eq_getElem_cons hi, List.take_append_drop]
  have e2 : (l[i]).filter (heldBy run) = ((l[i]).take k).filter (heldBy run) ++ (l[i])[k] :: ((l[i]).drop (k + 1)).filter (heldBy run) := by
    conv => lhs; rw [← List.take_append_drop k l[i], List.drop_eq_getElem_cons hk, List.filter_append, List.filter_cons, if_pos hh]
  have e3 : keptL l run = keptL (l.take i) run ++ ((((l[i]).take k).filter (heldBy run) ++ (l[i])[k] :: ((l[i]).drop (k + 1)).filter (heldBy run)) ++ keptL (l.drop (i + 1)) run) := by
    conv => lhs; rw [e1, keptL_append]
    rw [← e2]
    rfl
  rw [e3, List.getElem?_append_right (by omega), Nat.add_sub_cancel_left, List.append_assoc, List.getElem?_append_right (Nat.le_refl _), Nat.sub_self]
  rfl
theorem filt_len_yes {n : List Item} {q : Item → Bool} {j : Nat} {y : Item} (hy : n[j]? = some y) (hq : q y = true) : ((n.take (j + 1)).filter q).length = ((n.take j).filter q).length + 1 := by rw [filt_yes hy hq]; simp
theorem held_one {run : List Int} {y : Item} (hr : okR run = true) (hy : Item.ok y = true) : heldR [y] run = (0, if heldBy run y then 0 else 6) := by
  unfold heldR firstR
  rw [if_pos hr, if_pos (by simp [hy])]
  cases h : heldBy run y <;> simp [List.findIdx?_cons, h]
theorem okK_item {x : Stk} {i k : Nat} {s : List Item} {y : Item} (h : okK x = true) (hx : x.cells[i]? = some s) (hy : s[k]? = some y) : Item.ok y = true := by
  unfold okK at h
  simp only [Bool.and_eq_true, decide_eq_true_eq] at h
  have hs := List.all_eq_true.1 h.2 s (List.mem_of_getElem? hx)
  unfold okS at hs
  simp only [Bool.and_eq_true] at hs
  exact List.all_eq_true.1 hs.2 y (List.mem_of_getElem? hy)
theorem end_ok {x : Stk} {run : List Int} (hr : okR run = true) (hk : okK x = true) : endR34 x run = (if freeB x.cells run then 0 else 2, 0) := endR34_ok (by rw [askErr, if_pos hr, stkErr_ok hk])
theorem prot_ok {x : Stk} {run : List Int} (hr : okR run = true) (hk : okK x = true) : protR x run = (keptL x.cells run, 0) := protR_ok (by rw [askErr, if_pos hr, stkErr_ok hk])
theorem free_nil (l : List (List Item)) : freeB l [] = true := by
  unfold freeB
  rw [Bool.not_eq_true', List.any_eq_false]
  intro s _
  simp [heldBy, hasR]
theorem end_nil {x : Stk} (hk : okK x = true) : endR34 x [] = (0, 0) := by rw [end_ok (by decide) hk, free_nil]; rfl
theorem free_fewer {l : List (List Item)} {run : List Int} {i : Nat} (h : freeB l run = true) : freeB l (run.take i ++ run.drop (i + 1)) = true := by
  unfold freeB at h ⊢
  rw [Bool.not_eq_true', List.any_eq_false] at h ⊢
  intro s hs hn
  apply h s hs
  rw [← firstR_isSome] at hn ⊢
  exact held_fewer hn
theorem stkErr_okK {x : Stk} (h : stkErr x = 0) : okK x = true := by
  unfold stkErr at h
  cases hk : okK x
  · simp [hk] at h
  · rfl
theorem runErr_okR {run : List Int} (h : runErr run = 0) : okR run = true := by
  unfold runErr at h
  cases hk : okR run
  · simp [hk] at h
  · rfl

end Go.Proofs.YtjfkfibhgilolaaDoor
