/- Contracts: items.Check, items.Base, and the reference's At, Find and Base. -/
import Derived.Test.YtkbocenpkdaogaaDoorItemsC
namespace Go.Proofs.YtkbocenpkdaogaaDoor
set_option maxRecDepth 100000
open Go.RowKit

theorem callFunc_Check1 (args : Array Value) (w : World) : (callFunc 65 args).run Tryd.prog w = .ok (.enter 65 args) w := by kernel_rfl

set_option maxHeartbeats 400000 in
theorem items_Check1 (W : World) : PredAt 65 #[] W (fun x => !x.ok) := by
  intro x w _
  have hx := items_isItem x
  obtain ⟨p, t, c⟩ := x
  unfold Item.val at *
  have hE := (Ext.refl w).alloc (.cells #[.int .u8 p, .int .i64 t, .int .i64 c] 23)
  have hX := Lib.hid hx
  clear hx
  show Calls Tryd.prog 65 #[.agg #[.int .u8 p, .int .i64 t, .int .i64 c]] w _
  go_enter Tryd.func65, Tryd.ntmps65
  go_wp2_with (go_at_call 66; refine (hX.out _).mono ?_; rintro e w' ⟨rfl, hE'⟩)
  go_ret
  exact ⟨rfl, hE.trans hE'⟩

theorem idxOf_any {α : Type} (p : α → Bool) (l : List α) : decide (0 ≤ idxOf (l.findIdx? p)) = l.any p := by
  cases h : l.findIdx? p with
  | none =>
    have h' : l.any p = false := by rw [List.findIdx?_eq_none_iff] at h; simpa [List.any_eq_false] using h
    rw [h']; simp [idxOf]
  | some i =>
    have h' : l.any p = true := by
      rw [List.findIdx?_eq_some_iff_getElem] at h
      obtain ⟨hi, hp, _⟩ := h
      rw [List.any_eq_true]
      exact ⟨l[i], List.getElem_mem _, hp⟩
    rw [h']; simp [idxOf]

set_option maxHeartbeats 400000 in
theorem containsFunc_item {g : Nat} {cap : Array Value} {p : Item → Bool} {l : List Item} {v : Value} {w : World} (hg : ∀ args w, (callFunc g args).run Tryd.prog w = .ok (.enter g args) w)
    (hp : PredAt g cap w p) (hl : Its w v l) : Calls Tryd.prog 64 #[v, .func (.func g) #[] cap] w fun e w' => e = .returned (.bool (l.any p)) ∧ Ext w w' := by
  have hC := Lib.hid (indexFunc_item hg hp hl)
  have hA := Lib.hid (idxOf_any p l)
  clear hg
  obtain ⟨a, cp, rfl, -⟩ := hl.form
  go_enter Tryd.func64, Tryd.ntmps64
  go_wp2_with (go_at_call 75; refine hC.out.mono ?_; rintro e w' ⟨rfl, hE'⟩)
  go_ret
  exact ⟨by rw [← hA.out]; rfl, hE'⟩

theorem any_not_ok (l : List Item) : l.any (fun x => !x.ok) = !l.all Item.ok := by
  induction l with
  | nil => rfl
  | cons x l ih => rw [List.any_cons, List.all_cons, ih, Bool.not_and]

set_option maxHeartbeats 400000 in
theorem items_Check {l : List Item} {v : Value} {w : World} (hl : Its w v l) : Calls Tryd.prog 42 #[v] w fun e w' => e = .returned (.int .i64 (chk l)) ∧ Ext w w' := by
  have hC := Lib.hid (containsFunc_item callFunc_Check1 (items_Check1 w) hl)
  have hN := Lib.hid (any_not_ok l)
  obtain ⟨a, cp, rfl, hlc, hcm, -⟩ := hl.form
  by_cases h6 : l.length ≤ 600
  · have hd : decide ((600 : Int) < (l.length : Int)) = false := decide_eq_false (by omega)
    cases ha : l.all Item.ok
    all_goals
      have hv := Lib.hid ha
      go_enter Tryd.func42, Tryd.ntmps42
      go_wp2_with (go_at_call 64; refine hC.out.mono ?_; rintro e w' ⟨rfl, hE'⟩; rw [hN.out, hv.out])
      go_ret
      exact ⟨by simp [chk, okS, hv.out, h6], hE'⟩
  · have hd : decide ((600 : Int) < (l.length : Int)) = true := decide_eq_true (by omega)
    go_enter Tryd.func42, Tryd.ntmps42
    go_wp2
    go_ret
    exact ⟨by simp [chk, okS, h6], Ext.refl _⟩

end Go.Proofs.YtkbocenpkdaogaaDoor
