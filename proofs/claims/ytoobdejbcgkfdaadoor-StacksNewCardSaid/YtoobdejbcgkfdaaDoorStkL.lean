/- New stacks grant all accesses with their tag, and none with another one; no program in sight. -/
import Derived.Test.YtoobdejbcgkfdaaDoorStkJ
namespace Go.Proofs.YtoobdejbcgkfdaaDoor
set_option maxRecDepth 100000
open Go.RowKit

theorem fresh_ok {tag : Int} (h : inB tag = true) : okS [⟨1, tag, 0⟩] = true := by
  simp [okS, Item.ok, h, show inB 0 = true by decide]

theorem fresh_use {tag : Int} (other : Int) (b : Bool) (h : inB tag = true) : useR [⟨1, tag, 0⟩] other b [] = if other = tag then ([⟨1, tag, 0⟩], 0, 0) else ([], 1, 0) := by
  have hok := fresh_ok h
  have h0 : okR [] = true := by decide
  by_cases e : other = tag
  · subst e
    rw [if_pos rfl]
    cases b <;> simp [useR, h0, toldR', accL, accG, accW, chk, hok, usedL, usedG, usedW, findAt, lastUpTo, grants, useLeft, useGone, actAt, firstR]
  · rw [if_neg e]
    have e' : ¬ tag = other := fun h => e h.symm
    cases b <;> simp [useR, h0, toldR', accL, accG, accW, chk, hok, usedL, usedG, usedW, findAt, lastUpTo, grants, firstR, e, e']

theorem new_okK {num tag : Int} {size : Nat} (hn : inB num = true) (ht : inB tag = true) (hs : 1 ≤ size ∧ size ≤ 2) : okK ⟨num, based size tag⟩ = true := by
  have hok := fresh_ok ht
  obtain rfl | rfl : size = 1 ∨ size = 2 := by omega
  all_goals simp [okK, based, baseOf, hn, ht, hok, List.replicate]
theorem new_use {num tag : Int} (other : Int) (b : Bool) {size a n : Nat} (hn : inB num = true) (ht : inB tag = true) (hs : 1 ≤ size ∧ size ≤ 2) (hin : a < size ∧ 1 ≤ n ∧ n ≤ size - a) :
    use33 ⟨num, based size tag⟩ a n other b [] = if other = tag then (⟨num, based size tag⟩, 0, 0) else (Stk.zero, 1, 0) := by
  have hk := new_okK hn ht hs
  have ha : ask33 ⟨num, based size tag⟩ a n [] = 0 := by
    rw [ask33, if_pos (by decide), if_pos hk, if_pos]
    unfold inR33
    dsimp only
    rw [based_len]
    omega
  rw [use33_ok ha]
  have hc : (size = 1 ∧ a = 0 ∧ n = 1) ∨ (size = 2 ∧ a = 0 ∧ n = 1) ∨ (size = 2 ∧ a = 0 ∧ n = 2) ∨ (size = 2 ∧ a = 1 ∧ n = 1) := by omega
  rcases hc with ⟨rfl, rfl, rfl⟩ | ⟨rfl, rfl, rfl⟩ | ⟨rfl, rfl, rfl⟩ | ⟨rfl, rfl, rfl⟩
  all_goals
    have hf := fresh_use other b ht
    by_cases e : other = tag
    · rw [if_pos e] at hf
      rw [if_pos e]
      simp [eachR, eachGo, based, baseOf, ht, hf, List.replicate]
    · rw [if_neg e] at hf
      rw [if_neg e]
      simp [eachR, eachGo, based, baseOf, ht, hf, List.replicate]

end Go.Proofs.YtoobdejbcgkfdaaDoor
