/- Contracts: Above and Below, the program's and the reference's. -/
import Derived.Test.YtkbocenpkdaogaaDoorItemsE
namespace Go.Proofs.YtkbocenpkdaogaaDoor
set_option maxRecDepth 100000
open Go.RowKit

/-- Is the index one of the stack's, and the stack valid? -/
def atErr (l : List Item) (at' : Int) : Int := if okS l then (if 0 ≤ at' ∧ at' < l.length then 0 else 2) else 8
def aboveOf (l : List Item) (at' : Int) : List Item := if atErr l at' = 0 then l.drop (at'.toNat + 1) else []
def belowOf (l : List Item) (at' : Int) : List Item := if atErr l at' = 0 then l.take (at'.toNat + 1) else []

theorem slice_from_Stack (a : Option Addr) (l : List Item) (cap : Nat) (x : Int) (k : Nat) (hx : x = k) (hk : k ≤ l.length) :
    ∃ sv, (∀ w, (Instr.slice 31 (.slice a l.length cap) (some (.int .i64 x)) none none).run Tryd.prog w = .ok (.slice sv (l.length - k) (cap - k)) w) ∧ ∀ w, Its w (.slice a l.length cap) l → Its w (.slice sv (l.length - k) (cap - k)) (l.drop k) := by
  obtain ⟨i, z, hi, hz, hi3, hz3, hby⟩ := Item.infoE
  refine ⟨_, fun w => run_slice_from Tryd.underlying31 hi a l.length cap x k hx hk w, fun w h => ?_⟩
  rw [hi3]
  exact h.drop k hk

theorem slice_upto_Stack (a : Option Addr) (l : List Item) (cap : Nat) (x : Int) (k : Nat) (hx : x = k) (hk : k ≤ cap) :
    ∀ w, (Instr.slice 31 (.slice a l.length cap) none (some (.int .i64 x)) none).run Tryd.prog w = .ok (.slice a k cap) w := by
  obtain ⟨i, z, hi, hz, hi3, hz3, hby⟩ := Item.infoE
  exact fun w => run_slice_upto Tryd.underlying31 hi a l.length cap x k hx hk w



/-- It hands back two new slices, and a number. -/
def RetLLN (e : TypeId) (w : World) (l m : List Item) (n : Int) (en : Ending) (w' : World) : Prop := ∃ v u, en = .returned (.tuple #[v, u, .int .i64 n]) ∧ Own w' w.heap.size e 3 v l.length (l.flatMap Item.row) ∧ Own w' w.heap.size e 3 u m.length (m.flatMap Item.row) ∧ Ext w w'

set_option maxHeartbeats 800000 in
theorem items_cut {l : List Item} {v : Value} {w : World} (at' : Int) (hl : Its w v l) :
    Calls Tryd.prog 81 #[v, .int .i64 at'] w (RetLLN 23 w (belowOf l at') (aboveOf l at') (atErr l at')) := by
  have hC := Lib.hid (items_Check hl)
  have hW := Lib.hid hl
  obtain ⟨a, cp, rfl, hlc, hcm, hnn⟩ := hl.form
  clear hl
  unfold maxLen at hcm
  cases hk : okS l
  · have h8 : Hid (chk l = 8) := Hid.mk (by simp [chk, hk])
    have e1 : Hid (atErr l at' = 8) := Hid.mk (by simp [atErr, hk])
    go_enter Tryd.func81, Tryd.ntmps81
    go_wp2_with (go_at_call 42; refine hC.out.mono ?_; rintro e w' ⟨rfl, hE⟩; rw [h8.out])
    go_ret3
    unfold aboveOf belowOf
    rw [e1.out]
    exact ⟨_, _, rfl, Own.nil _ _ _ _, Own.nil _ _ _ _, hE⟩
  · have h0 : Hid (chk l = 0) := Hid.mk (by simp [chk, hk])
    have hl6 : l.length ≤ 600 := by simp [okS] at hk; omega
    by_cases hr : 0 ≤ at' ∧ at' < l.length
    · obtain ⟨k, rfl⟩ := Int.eq_ofNat_of_zero_le hr.1
      have hkl : k < l.length := by omega
      have e1 : Hid (atErr l (k : Int) = 0) := Hid.mk (by simp [atErr, hk, hkl])
      have d0 : decide ((k : Int) < 0) = false := decide_eq_false (by omega)
      have d1 : decide ((l.length : Int) ≤ (k : Int)) = false := decide_eq_false (by omega)
      clear hr hk
      have hs1 := slice_upto_Stack a l cp ((k : Int) + 1) (k + 1) (by simp) (by omega)
      obtain ⟨sv, hs3, hs2⟩ := slice_from_Stack a l cp ((k : Int) + 1) (k + 1) (by simp) (by omega)
      have hs2 := Lib.hid hs2
      have hk1 : IntKind.i64.wrap ((k : Int) + 1) = (k : Int) + 1 := IntWalk.i64_in _ (by omega)
      go_enter Tryd.func81, Tryd.ntmps81
      go_wp2_with (go_at_call 42; refine hC.out.mono ?_; rintro e w1 ⟨rfl, hE⟩; rw [h0.out])
      go_region_held3 (fun w' => Ext w1 w') (first | exact (Ext.refl _).drew | exact Ext.trans (by assumption) hE3 | exact Ext.trans (by assumption) hE2) (first | (go_at_call 52; refine (clone_Stack (l := l.take (k + 1)) (Its.ext ?_ (hE.trans (by assumption))) ?_).mono ?_; (exact hW.out.take (k + 1) (by omega)); (simp; omega); rintro e w2 ⟨v2, rfl, hO, hE2⟩) | (go_at_call 83; refine (clone_Items (l := l.drop (k + 1)) (Its.ext ?_ (hE.trans (by assumption))) ?_).mono ?_; (exact hs2.out _ hW.out); (simp; omega); rintro e w3 ⟨v3, rfl, hO', hE3⟩))
      go_wp2
      go_ret3
      unfold aboveOf belowOf
      rw [e1.out]
      exact ⟨_, _, rfl, (hO.ext hE3).mono hE.size, hO'.mono (hE.trans ((Ext.refl w1).drew.trans hE2)).size, hE.trans (by assumption)⟩
    · have e1 : Hid (atErr l at' = 2) := Hid.mk (by simp [atErr, hk, hr])
      have hr' : at' < 0 ∨ (0 ≤ at' ∧ (l.length : Int) ≤ at') := by omega
      clear hr hk
      rcases hr' with hr' | ⟨hr1, hr2⟩
      all_goals
        go_enter Tryd.func81, Tryd.ntmps81
        go_wp2_with (go_at_call 42; refine hC.out.mono ?_; rintro e w1 ⟨rfl, hE⟩; rw [h0.out])
        go_ret3
        unfold aboveOf belowOf
        rw [e1.out]
        exact ⟨_, _, rfl, Own.nil _ _ _ _, Own.nil _ _ _ _, hE⟩

set_option maxHeartbeats 400000 in
theorem items_Above {l : List Item} {v : Value} {w : World} (at' : Int) (hl : Its w v l) :
    Calls Tryd.prog 77 #[v, .int .i64 at'] w (RetLN 23 w (aboveOf l at') (atErr l at')) := by
  have hC := Lib.hid (items_cut at' hl)
  obtain ⟨a, cp, rfl, hlc, hcm, hnn⟩ := hl.form
  clear hl
  go_enter Tryd.func77, Tryd.ntmps77
  go_wp2_with (go_at_call 81; refine hC.out.mono ?_; rintro e w1 ⟨v1, v2, rfl, hO1, hO2, hE⟩)
  go_ret2
  exact ⟨_, rfl, hO2, hE⟩

set_option maxHeartbeats 400000 in
theorem items_Below {l : List Item} {v : Value} {w : World} (at' : Int) (hl : Its w v l) :
    Calls Tryd.prog 76 #[v, .int .i64 at'] w (RetLN 23 w (belowOf l at') (atErr l at')) := by
  have hC := Lib.hid (items_cut at' hl)
  obtain ⟨a, cp, rfl, hlc, hcm, hnn⟩ := hl.form
  clear hl
  go_enter Tryd.func76, Tryd.ntmps76
  go_wp2_with (go_at_call 81; refine hC.out.mono ?_; rintro e w1 ⟨v1, v2, rfl, hO1, hO2, hE⟩)
  go_ret2
  exact ⟨_, rfl, hO1, hE⟩

end Go.Proofs.YtkbocenpkdaogaaDoor
