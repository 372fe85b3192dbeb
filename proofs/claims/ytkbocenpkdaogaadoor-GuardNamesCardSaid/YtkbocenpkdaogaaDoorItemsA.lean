/- Contracts: the tests of items, IndexFunc and ContainsFunc over items, items.Check. -/
import Derived.Test.YtkbocenpkdaogaaDoorProg
import Derived.Test.YtkbocenpkdaogaaDoorData
namespace Go.Proofs.YtkbocenpkdaogaaDoor
set_option maxRecDepth 100000
open Go.RowKit

set_option maxHeartbeats 400000 in
theorem items_in (n : Int) (w : World) : Calls Tryd.prog 73 #[.int .i64 n] w fun e w' => e = .returned (.bool (inB n)) ∧ w = w' := by
  by_cases h0 : 0 ≤ n <;> by_cases h1 : n ≤ 1000000
  all_goals
    go_enter Tryd.func73, Tryd.ntmps73
    go_wp2
    go_ret
    exact ⟨by simp [inB, *], rfl⟩

set_option maxHeartbeats 400000 in
theorem items_isItem (x : Item) (w : World) : Calls Tryd.prog 66 #[x.val] w fun e w' => e = .returned (.bool x.ok) ∧ Ext w w' := by
  obtain ⟨p, t, c⟩ := x
  have hE := (Ext.refl w).alloc (.cells #[.int .u8 p, .int .i64 t, .int .i64 c] 23)
  unfold Item.val
  cases ht : inB t <;> cases hc : inB c
  all_goals
    go_enter Tryd.func66, Tryd.ntmps66
    go_wp2_with (go_at_call 73; refine (items_in _ _).mono ?_; rintro e w' ⟨rfl, rfl⟩)
    all_goals
      go_ret
      exact ⟨by simp_all [Item.ok], hE⟩

def PredAt (g : Nat) (cap : Array Value) (W : World) (p : Item → Bool) : Prop :=
  ∀ (x : Item) (w : World), Ext W w → Calls Tryd.prog g (#[x.val] ++ cap) w fun e w' => e = .returned (.bool (p x)) ∧ Ext w w'

def idxOf : Option Nat → Int
  | none => -1
  | some i => i

theorem findIdx_hit {α : Type} {p : α → Bool} {l : List α} {k : Nat} {x : α} (h : (l.take k).any p = false) (hx : l[k]? = some x) (hp : p x = true) : l.findIdx? p = some k := by
  rw [List.findIdx?_eq_some_iff_getElem]
  obtain ⟨hk, rfl⟩ := List.getElem?_eq_some_iff.1 hx
  refine ⟨hk, hp, fun j hj => ?_⟩
  simp only [List.any_eq_false] at h
  have := h l[j] (by rw [List.mem_iff_getElem?]; exact ⟨j, by rw [List.getElem?_take, if_pos hj]; simp⟩)
  simpa using this

theorem findIdx_miss {α : Type} {p : α → Bool} {l : List α} (h : l.any p = false) : l.findIdx? p = none := by
  rw [List.findIdx?_eq_none_iff]
  simpa [List.any_eq_false] using h

theorem any_take_succ {α : Type} {p : α → Bool} {l : List α} {k : Nat} {x : α} (h : (l.take k).any p = false) (hx : l[k]? = some x) (hp : p x = false) : (l.take (k + 1)).any p = false := by
  rw [List.take_add_one, hx]
  simp [List.any_append, h, hp]

set_option maxHeartbeats 400000 in
theorem indexFunc_item {g : Nat} {cap : Array Value} {p : Item → Bool} {l : List Item} {v : Value} {w : World} (hg : ∀ args w, (callFunc g args).run Tryd.prog w = .ok (.enter g args) w)
    (hp : PredAt g cap w p) (hl : Its w v l) : Calls Tryd.prog 75 #[v, .func (.func g) #[] cap] w fun e w' => e = .returned (.int .i64 (idxOf (l.findIdx? p))) ∧ Ext w w' := by
  obtain ⟨a, cp, rfl, hlc, hcm, -⟩ := hl.form
  unfold maxLen at hcm
  go_enter Tryd.func75, Tryd.ntmps75
  go_wp2
  go_loopw [8] (fun i wr => ∃ k : Nat, k ≤ l.length ∧ i = .int .i64 k ∧ Ext w wr ∧ Hid ((l.take k).any p = false)) (fun i _ => l.length - (intOf i).toNat)
  case atStart => exact ⟨0, Nat.zero_le _, rfl, Ext.refl _, by simp [Hid]⟩
  case round =>
    obtain ⟨k, hk, rfl, hE, hN⟩ := hrel
    by_cases hlt : k < l.length
    · obtain ⟨x, hx⟩ : ∃ x, l[k]? = some x := ⟨l[k], by simp [hlt]⟩
      obtain ⟨b, off, rfl, hb, c0, c1, c2⟩ := (hl.ext hE).cell hx
      have hX := Lib.hid hx
      clear hx
      cases hpx : p x
      all_goals
        have hP := Lib.hid hpx
        clear hpx
        go_wp2_with fail
        refine (hp x wr hE).mono ?_
        rintro e w1 ⟨rfl, hE1⟩
        have hpx := hP.out
        go_wp2
      · go_roundw
        case rel => exact ⟨k + 1, by omega, by go_num, hE.trans hE1, any_take_succ hN.out hX.out hP.out⟩
        case measure => simp [intOf]; omega
      · go_ret
        exact ⟨by rw [findIdx_hit hN.out hX.out hP.out]; rfl, hE.trans hE1⟩
    · have hkl : k = l.length := by omega
      subst hkl
      go_wp2
      go_ret
      have hN' := hN.out
      rw [List.take_length] at hN'
      exact ⟨by rw [findIdx_miss hN']; rfl, hE⟩

end Go.Proofs.YtkbocenpkdaogaaDoor
