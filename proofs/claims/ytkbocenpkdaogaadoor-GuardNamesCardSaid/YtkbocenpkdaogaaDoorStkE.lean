/- Contracts: asked of layer 33, the program's and the reference's. (printed by gen/use33.py) -/
import Derived.Test.YtkbocenpkdaogaaDoorStkD
namespace Go.Proofs.YtkbocenpkdaogaaDoor
set_option maxRecDepth 100000
open Go.RowKit

def inR33 (x : Stk) (a n : Int) : Prop := 0 ≤ a ∧ a < x.cells.length ∧ 1 ≤ n ∧ n ≤ x.cells.length - a
instance (x : Stk) (a n : Int) : Decidable (inR33 x a n) := by unfold inR33; infer_instance
def ask33 (x : Stk) (a n : Int) (run : List Int) : Int := if okR run then (if okK x then (if inR33 x a n then 0 else 6) else 8) else 8
theorem ask33_cases (x : Stk) (a n : Int) (run : List Int) : ask33 x a n run = 8 ∨ ask33 x a n run = 6 ∨ (ask33 x a n run = 0 ∧ okR run = true ∧ okK x = true ∧ inR33 x a n) := by
  unfold ask33
  cases okR run
  · simp
  · cases okK x
    · simp
    · by_cases h : inR33 x a n <;> simp [h]

set_option maxHeartbeats 1600000 in
theorem stacks_asked {l : List (List Item)} {num a n : Int} {run : List Int} {s v : Value} {w : World} (hl : Sts w s l) (hr : Nts w v run) :
    Calls Tryd.prog 54 #[.agg #[.int .i64 num, s], .int .i64 a, .int .i64 n, v] w fun e w' => e = .returned (.int .i64 (ask33 ⟨num, l⟩ a n run)) ∧ Ext w w' := by
  have hE0 := (Ext.refl w).alloc (.cells #[.int .i64 num, s] 56)
  have hl0 := hl.ext hE0
  have hr0 := hr.ext hE0
  obtain ⟨p, cp, rfl, hlc, hcm, -⟩ := hl.form
  obtain ⟨a2, cp2, rfl, -⟩ := hr.form
  unfold maxLen at hcm
  have bM := Box.new w 56 #[.int .i64 num, .slice p l.length cp]
  clear hl hr
  cases hok : okR run
  · have h8 := Lib.hid (runErr_bad hok)
    have hres : Hid (ask33 ⟨num, l⟩ a n run = 8) := Hid.mk (by simp [ask33, hok])
    clear hok
    go_enter Tryd.func54, Tryd.ntmps54
    go_wp2_with fail
    refine (guard_Check hr0).mono ?_
    rintro e w1 ⟨rfl, rfl⟩
    rw [h8.out]
    go_wp2
    go_ret
    exact ⟨by rw [hres.out] <;> rfl, hE0⟩
  have h0 := Lib.hid (runErr_ok hok)
  cases hkk : okK ⟨num, l⟩
  · have h8 := Lib.hid (stkErr_bad hkk)
    have hres : Hid (ask33 ⟨num, l⟩ a n run = 8) := Hid.mk (by simp [ask33, hok, hkk])
    clear hok hkk
    go_enter Tryd.func54, Tryd.ntmps54
    go_wp2_with fail
    refine (guard_Check hr0).mono ?_
    rintro e w1 ⟨rfl, rfl⟩
    rw [h0.out]
    go_wp2_with fail
    refine (stacks_Check hl0).mono ?_
    rintro e w2 ⟨rfl, hE2⟩
    rw [h8.out]
    go_wp2
    go_ret
    exact ⟨by rw [hres.out] <;> rfl, hE0.trans hE2⟩
  have hk0 := Lib.hid (stkErr_ok hkk)
  have hres : Hid (ask33 ⟨num, l⟩ a n run = if inR33 ⟨num, l⟩ a n then 0 else 6) := Hid.mk (by rw [ask33, if_pos hok, if_pos hkk])
  clear hok hkk
  by_cases hin : 0 ≤ a ∧ a < l.length
  · have hw1 : IntKind.i64.wrap ((l.length : Int) - a) = (l.length : Int) - a := IntWalk.i64_in _ (by omega)
    have g1 : decide (a < 0) = false := decide_eq_false (by omega)
    have g2 : decide ((l.length : Int) ≤ a) = false := decide_eq_false (by omega)
    by_cases hn1 : n < 1
    · have g3 : decide (n < 1) = true := decide_eq_true hn1
      have hf : Hid ((if inR33 ⟨num, l⟩ a n then (0 : Int) else 6) = 6) := Hid.mk (if_neg (by unfold inR33; dsimp only; omega))
      go_enter Tryd.func54, Tryd.ntmps54
      go_wp2_with fail
      refine (guard_Check hr0).mono ?_
      rintro e w1 ⟨rfl, rfl⟩
      rw [h0.out]
      go_wp2_with fail
      refine (stacks_Check hl0).mono ?_
      rintro e w2 ⟨rfl, hE2⟩
      rw [hk0.out]
      have m1 : World.cell? w2 ⟨w.heap.size, 1, none⟩ = some (.slice p l.length cp) := (bM.ext hE2).cell 1
      go_wp2
      go_ret
      exact ⟨by rw [hres.out, hf.out] <;> rfl, hE0.trans hE2⟩
    have g3 : decide (n < 1) = false := decide_eq_false hn1
    by_cases hn2 : (l.length : Int) - a < n
    · have g4 : decide ((l.length : Int) - a < n) = true := decide_eq_true hn2
      have hf : Hid ((if inR33 ⟨num, l⟩ a n then (0 : Int) else 6) = 6) := Hid.mk (if_neg (by unfold inR33; dsimp only; omega))
      go_enter Tryd.func54, Tryd.ntmps54
      go_wp2_with fail
      refine (guard_Check hr0).mono ?_
      rintro e w1 ⟨rfl, rfl⟩
      rw [h0.out]
      go_wp2_with fail
      refine (stacks_Check hl0).mono ?_
      rintro e w2 ⟨rfl, hE2⟩
      rw [hk0.out]
      have m1 : World.cell? w2 ⟨w.heap.size, 1, none⟩ = some (.slice p l.length cp) := (bM.ext hE2).cell 1
      go_wp2
      go_ret
      exact ⟨by rw [hres.out, hf.out] <;> rfl, hE0.trans hE2⟩
    · have g4 : decide ((l.length : Int) - a < n) = false := decide_eq_false hn2
      have hf : Hid ((if inR33 ⟨num, l⟩ a n then (0 : Int) else 6) = 0) := Hid.mk (if_pos (by unfold inR33; dsimp only; omega))
      go_enter Tryd.func54, Tryd.ntmps54
      go_wp2_with fail
      refine (guard_Check hr0).mono ?_
      rintro e w1 ⟨rfl, rfl⟩
      rw [h0.out]
      go_wp2_with fail
      refine (stacks_Check hl0).mono ?_
      rintro e w2 ⟨rfl, hE2⟩
      rw [hk0.out]
      have m1 : World.cell? w2 ⟨w.heap.size, 1, none⟩ = some (.slice p l.length cp) := (bM.ext hE2).cell 1
      go_wp2
      go_ret
      exact ⟨by rw [hres.out, hf.out] <;> rfl, hE0.trans hE2⟩
  · have hf : Hid ((if inR33 ⟨num, l⟩ a n then (0 : Int) else 6) = 6) := Hid.mk (if_neg (by unfold inR33; dsimp only; omega))
    rcases Int.lt_or_le a 0 with ha | ha
    · have g1 : decide (a < 0) = true := decide_eq_true ha
      go_enter Tryd.func54, Tryd.ntmps54
      go_wp2_with fail
      refine (guard_Check hr0).mono ?_
      rintro e w1 ⟨rfl, rfl⟩
      rw [h0.out]
      go_wp2_with fail
      refine (stacks_Check hl0).mono ?_
      rintro e w2 ⟨rfl, hE2⟩
      rw [hk0.out]
      have m1 : World.cell? w2 ⟨w.heap.size, 1, none⟩ = some (.slice p l.length cp) := (bM.ext hE2).cell 1
      go_wp2
      go_ret
      exact ⟨by rw [hres.out, hf.out] <;> rfl, hE0.trans hE2⟩
    · have g1 : decide (a < 0) = false := decide_eq_false (by omega)
      have g2 : decide ((l.length : Int) ≤ a) = true := decide_eq_true (by omega)
      go_enter Tryd.func54, Tryd.ntmps54
      go_wp2_with fail
      refine (guard_Check hr0).mono ?_
      rintro e w1 ⟨rfl, rfl⟩
      rw [h0.out]
      go_wp2_with fail
      refine (stacks_Check hl0).mono ?_
      rintro e w2 ⟨rfl, hE2⟩
      rw [hk0.out]
      have m1 : World.cell? w2 ⟨w.heap.size, 1, none⟩ = some (.slice p l.length cp) := (bM.ext hE2).cell 1
      go_wp2
      go_ret
      exact ⟨by rw [hres.out, hf.out] <;> rfl, hE0.trans hE2⟩


end Go.Proofs.YtkbocenpkdaogaaDoor
