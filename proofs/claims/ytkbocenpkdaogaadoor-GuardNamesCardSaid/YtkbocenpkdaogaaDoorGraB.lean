/- Contracts: layer 30, the program's and the reference's. -/
import Derived.Test.YtkbocenpkdaogaaDoorGraA
import Derived.Test.YtkbocenpkdaogaaDoorAccD
import Derived.Test.YtkbocenpkdaogaaDoorItemsP
namespace Go.Proofs.YtkbocenpkdaogaaDoor
set_option maxRecDepth 100000
open Go.RowKit

def u8B (k : Int) : Prop := 0 ≤ k ∧ k ≤ 255

/-- The package variable perms holds what its initialiser lays. -/
def Perms (w : World) : Prop := w.cell? ⟨0, 0, none⟩ = some (.int .u8 0) ∧ w.cell? ⟨0, 1, none⟩ = some (.int .u8 4) ∧ w.cell? ⟨0, 2, none⟩ = some (.int .u8 1) ∧ w.cell? ⟨0, 3, none⟩ = some (.int .u8 2) ∧ w.cell? ⟨0, 4, none⟩ = some (.int .u8 3)
theorem Perms.ext {w w' : World} (h : Perms w) (hE : Ext w w') : Perms w' := ⟨hE.cell h.1, hE.cell h.2.1, hE.cell h.2.2.1, hE.cell h.2.2.2.1, hE.cell h.2.2.2.2⟩
theorem Perms.at {w : World} (h : Perms w) {k : Int} (hk : kindOk k = true) : w.cell? ⟨0, k.toNat, none⟩ = some (.int .u8 (permOf k)) := by
  unfold kindOk at hk
  simp only [Bool.and_eq_true, decide_eq_true_eq] at hk
  obtain rfl | rfl | rfl | rfl : k = 1 ∨ k = 2 ∨ k = 3 ∨ k = 4 := by omega
  · exact h.2.1
  · exact h.2.2.1
  · exact h.2.2.2.1
  · exact h.2.2.2.2

theorem kind_yes {k : Int} (h : kindOk k = true) : k = 1 ∨ k = 2 ∨ k = 3 ∨ k = 4 := by
  unfold kindOk at h
  simp only [Bool.and_eq_true, decide_eq_true_eq] at h
  omega
theorem kind_no {k : Int} (h : kindOk k = false) (hk : u8B k) : k = 0 ∨ 5 ≤ k := by
  unfold kindOk at h
  obtain ⟨h1, h2⟩ := hk
  rcases Bool.and_eq_false_iff.1 h with h | h <;> simp only [decide_eq_false_iff_not] at h <;> omega
theorem kindErr_yes {k : Int} (h : kindOk k = true) : kindErr k = 0 := by simp [kindErr, h]
theorem kindErr_no {k : Int} (h : kindOk k = false) : kindErr k = 2 := by simp [kindErr, h]

set_option maxHeartbeats 400000 in
theorem grant_Check {k : Int} (w : World) (hk : u8B k) : Calls Tryd.prog 11 #[.int .u8 k] w fun e w' => e = .returned (.int .i64 (kindErr k)) ∧ w = w' := by
  cases h : kindOk k
  · have hr := Lib.hid (kindErr_no h)
    rcases kind_no h hk with rfl | h5
    · clear h hk
      go_enter Tryd.func11, Tryd.ntmps11
      go_wp2
      go_ret
      exact ⟨by rw [hr.out] <;> rfl, rfl⟩
    · have q1 : (k == 0) = false := beq_eq_false_iff_ne.2 (by omega)
      have q2 : decide (5 ≤ k) = true := decide_eq_true h5
      clear h hk
      go_enter Tryd.func11, Tryd.ntmps11
      go_wp2
      go_ret
      exact ⟨by rw [hr.out] <;> rfl, rfl⟩
  · have hr := Lib.hid (kindErr_yes h)
    rcases kind_yes h with rfl | rfl | rfl | rfl
    all_goals
      clear h hk
      go_enter Tryd.func11, Tryd.ntmps11
      go_wp2
      go_ret
      exact ⟨by rw [hr.out] <;> rfl, rfl⟩





def writesR (k : Int) : Bool := kindOk k && writesOf k
theorem writesR_eq (k : Int) : writesR k = writesOf k := by
  unfold writesR writesOf kindOk
  by_cases h2 : k = 2
  · subst h2; rfl
  · by_cases h4 : k = 4
    · subst h4; rfl
    · simp [h2, h4]


set_option maxHeartbeats 400000 in
theorem grant_Writes {k : Int} (w : World) (hk : u8B k) : Calls Tryd.prog 9 #[.int .u8 k] w fun e w' => e = .returned (.tuple #[.bool (writesOf k), .int .i64 (kindErr k)]) ∧ Ext w w' := by
  cases h1 : k == 2 <;> cases h2 : k == 4
  all_goals
    have hr : Hid (writesOf k = (k == 2 || k == 4)) := Hid.mk rfl
    go_enter Tryd.func9, Tryd.ntmps9
    go_wp2_with fail
    first
      | (refine (grant_Check _ hk).mono ?_; rintro e w1 ⟨rfl, rfl⟩; go_wp2; go_ret2; exact ⟨by rw [hr.out, h1, h2]; rfl, Ext.refl _⟩)
      | (go_quiet ((go_at_call 11; exact Calls.quiet_of_same ((grant_Check _ hk).mono fun _ _ h => ⟨h.1, h.2.symm⟩))); go_wp2; go_ret2; exact ⟨by rw [hr.out, h1, h2]; rfl, (Ext.refl _).drewN _⟩)

end Go.Proofs.YtkbocenpkdaogaaDoor
