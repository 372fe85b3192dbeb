/- Plain laws of layer 32: reads and a write with the tag from which it was reserved. No program in sight. -/
import Derived.Test.YtoobdejbcgkfdaaDoorLaw32C
namespace Go.Proofs.YtoobdejbcgkfdaaDoor
set_option maxRecDepth 100000
open Go.RowKit

theorem nil_free (G : List Item) : (firstR G []).isSome = false := by
  rw [firstR_isSome]
  cases h : G.any (heldBy [])
  · rfl
  · obtain ⟨x, -, hh⟩ := List.any_eq_true.1 h
    simp [heldBy, hasR] at hh
theorem useR_nil {l : List Item} {tag : Int} {write : Bool} {i : Nat} (hok : okS l = true) (hf : findAt l tag write = some i) : useR l tag write [] = (useLeft l i write, 0, 0) := by
  unfold useR
  rw [if_pos (by decide)]
  simp only [accL, accG, accW, hok, if_true, chk, usedL, usedG, usedW, hf]
  exact toldR'_no (by simp [nil_free])

/-- r is on top, alone of its tag; below it stands an item of the tag old. -/
structure OldU (U : List Item) (r : Item) (old : Int) : Prop where
  ok : okS U = true
  form : ∃ A, U = A ++ [r] ∧ (∀ x ∈ A, x.t ≠ r.t) ∧ ∃ x ∈ A, x.t = old
theorem OldU.resv {U : List Item} {r : Item} {old : Int} (h : OldU U r old) : Resv U r := by
  obtain ⟨A, rfl, hA, -⟩ := h.form
  refine ⟨h.ok, by simp, fun x hx hxt => ?_⟩
  rcases List.mem_append.1 hx with hx | hx
  · exact absurd hxt (hA x hx)
  · simpa using hx
theorem OldU.find {A : List Item} {r : Item} {old : Int} {write : Bool} {j : Nat} (hne : old ≠ r.t) (hf : findAt (A ++ [r]) old write = some j) : j < A.length ∧ ∃ x, A[j]? = some x ∧ x.t = old := by
  obtain ⟨x, hx, hg, -⟩ := findAt_is hf
  have ht : x.t = old := by
    unfold grants at hg
    simp only [Bool.and_eq_true, beq_iff_eq] at hg
    exact hg.1
  have hlt := (List.getElem?_eq_some_iff.1 hx).1
  rw [List.length_append, List.length_singleton] at hlt
  by_cases hj : j < A.length
  · rw [List.getElem?_append_left hj] at hx
    exact ⟨hj, x, hx, ht⟩
  · have : j = A.length := by omega
    subst this
    simp at hx
    subst hx
    exact absurd ht.symm hne
theorem OldU.old {U : List Item} {r : Item} {old : Int} (h : OldU U r old) (hne : old ≠ r.t) (hp : r.p = 2) : ∃ N, useR U old false [] = (N, 0, 0) ∧ OldU N r old := by
  obtain ⟨A, rfl, hA, x, hx, hxo⟩ := h.form
  cases hf : findAt (A ++ [r]) old false with
  | none =>
    obtain ⟨i, hi⟩ := List.mem_iff_getElem?.1 (List.mem_append_left [r] hx)
    have := findAt_no hf i x hi
    simp [grants, hxo] at this
  | some j =>
    obtain ⟨hj, y, hy, hyo⟩ := OldU.find hne hf
    refine ⟨_, useR_nil h.ok hf, useLeft_ok h.ok, A.take (j + 1) ++ (A.drop (j + 1)).filter (fun x => x.p != 1), ?_, fun z hz => ?_, y, ?_, hyo⟩
    · unfold useLeft
      rw [if_neg (by decide), List.take_append_of_le_length (by omega), List.drop_append_of_le_length (by omega), List.filter_append, List.append_assoc]
      congr 2
      simp [hp]
    · rcases List.mem_append.1 hz with hz | hz
      · exact hA z (List.mem_of_mem_take hz)
      · exact hA z (List.mem_of_mem_drop (List.mem_filter.1 hz).1)
    · exact List.mem_append_left _ (List.mem_of_getElem? (take_get hy))
theorem OldU.own {U : List Item} {r : Item} {old : Int} (h : OldU U r old) (hp : r.p = 2) : useR U r.t false [] = (U, 0, 0) := by
  obtain ⟨A, rfl, hA, -⟩ := h.form
  have hf : findAt (A ++ [r]) r.t false = some A.length := findAt_top (by simp [grants])
  rw [useR_nil h.ok hf]
  unfold useLeft
  rw [if_neg (by decide), List.take_of_length_le (by simp), List.drop_of_length_le (by simp)]
  simp
theorem OldU.write {U : List Item} {r : Item} {old : Int} (h : OldU U r old) (hne : old ≠ r.t) : ∃ W x, useR U old true [] = (W, x, 0) ∧ (x ≠ 0 ∨ (x = 0 ∧ phaseR W r.t = (0, 0))) := by
  obtain ⟨A, rfl, hA, -⟩ := h.form
  rcases useR_valid (tag := old) (write := true) (run := []) (by decide) h.ok with ⟨-, h1⟩ | ⟨j, hf, h1 | ⟨h1, -⟩⟩
  · exact ⟨_, _, h1, .inl (by decide)⟩
  · exact ⟨_, _, h1, .inl (by decide)⟩
  · refine ⟨_, _, h1, .inr ⟨rfl, ?_⟩⟩
    obtain ⟨hj, -⟩ := OldU.find hne hf
    have hok := useLeft_ok (i := j) (write := true) h.ok
    rw [phaseR_ok hok, phaseOf_none]
    cases hg : findAt (useLeft (A ++ [r]) j true) r.t true with
    | none => rfl
    | some m =>
      exfalso
      obtain ⟨z, hz, hgz, -⟩ := findAt_is hg
      have hzt : z.t = r.t := by
        unfold grants at hgz
        simp only [Bool.and_eq_true, beq_iff_eq] at hgz
        exact hgz.1
      have hzm := List.mem_of_getElem? hz
      unfold useLeft at hzm
      rw [if_pos rfl, List.take_append_of_le_length (by omega)] at hzm
      have : ∃ y ∈ A.take (j + 1), z.t = y.t := by
        unfold actAt at hzm
        split at hzm
        · rename_i y hy
          split at hzm
          · rcases List.mem_or_eq_of_mem_set hzm with h2 | h2
            · exact ⟨z, h2, rfl⟩
            · exact ⟨y, List.mem_of_getElem? hy, by rw [h2]⟩
          · exact ⟨z, hzm, rfl⟩
        · exact ⟨z, hzm, rfl⟩
      obtain ⟨y, hy, e⟩ := this
      exact hA y (List.mem_of_mem_take hy) (e ▸ hzt)

theorem old_law {l T : List Item} {old tag : Int} (hno : findAt l tag false = none) (hne : old ≠ tag) (h : tagR l 3 old ⟨0, tag, 0⟩ [] = (T, 0, 0)) : ∃ U, manyR T [old, tag, old] [] = (U, 3, 0, 0) ∧ phaseR U tag = (1, 0) ∧ OldU T ⟨2, tag, 0⟩ old := by
  obtain ⟨hr, hres, i, hf, hT⟩ := reserve_law hno h
  have h0 : OldU T ⟨2, tag, 0⟩ old := by
    refine ⟨hres.ok, useLeft l i false, hT, fun x hx hxt => ?_, ?_⟩
    · have hxl : x ∈ l := by
        unfold useLeft at hx
        rw [if_neg (by decide)] at hx
        rcases List.mem_append.1 hx with hx | hx
        · exact List.mem_of_mem_take hx
        · exact List.mem_of_mem_drop (List.mem_filter.1 hx).1
      obtain ⟨j, hj⟩ := List.mem_iff_getElem?.1 hxl
      have := findAt_no hno j x hj
      simp [grants] at this
      exact this hxt
    · obtain ⟨x, hx, hg, -⟩ := findAt_is hf
      unfold grants at hg
      simp only [Bool.and_eq_true, beq_iff_eq] at hg
      refine ⟨x, ?_, hg.1⟩
      unfold useLeft
      rw [if_neg (by decide)]
      exact List.mem_append_left _ (List.mem_of_getElem? (take_get hx))
  obtain ⟨N1, e1, h1⟩ := h0.old hne rfl
  have e2 : useR N1 tag false [] = (N1, 0, 0) := h1.own rfl
  obtain ⟨N3, e3, h3⟩ := h1.old hne rfl
  refine ⟨N3, ?_, h3.resv.phase rfl, h0⟩
  rw [manyR_ok hr hres.ok (by simp)]
  simp [readsR, e1, e2, e3]

end Go.Proofs.YtoobdejbcgkfdaaDoor
