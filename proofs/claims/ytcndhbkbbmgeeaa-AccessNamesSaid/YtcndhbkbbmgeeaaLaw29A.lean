/- Contract: the chapter's example of layer 29. (printed by gen/law29a.py) -/
import Derived.Test.YtcndhbkbbmgeeaaAccD
import Derived.Deep.RegionHeld3
import Derived.Deep.DeepMust
namespace Go.Proofs.Ytcndhbkbbmgeeaa
set_option maxRecDepth 100000
open Go.RowKit

set_option maxHeartbeats 3200000 in
set_option maxRecDepth 100000 in
theorem law29_alive (w : World) : Calls Try.prog 23 #[] w fun e w' => e = .returned (.bool true) ∧ Ext w w' := by
  go_enter Try.func23, Try.ntmps23
  go_wp2_with fail
  refine (law29_example _).mono ?_
  rintro e w1 ⟨vx, rfl, hvx, hE1⟩
  have hX : Its w1 vx exam29 := hvx.sl
  obtain ⟨g, cap, rfl, hc1, hc2, hg1, hg2⟩ := hvx.form (by decide)
  simp only [show exam29.length = 4 from rfl] at *
  unfold maxLen at hc2
  have c0 : w1.cell? ⟨g, 0, none⟩ = some (.int .u8 1) := (hvx.cellAt 0 (by decide)).trans rfl
  have c1 : w1.cell? ⟨g, 1, none⟩ = some (.int .i64 1) := (hvx.cellAt 1 (by decide)).trans rfl
  have c2 : w1.cell? ⟨g, 2, none⟩ = some (.int .i64 0) := (hvx.cellAt 2 (by decide)).trans rfl
  have c3 : w1.cell? ⟨g, 3, none⟩ = some (.int .u8 1) := (hvx.cellAt 3 (by decide)).trans rfl
  have c4 : w1.cell? ⟨g, 4, none⟩ = some (.int .i64 2) := (hvx.cellAt 4 (by decide)).trans rfl
  have c5 : w1.cell? ⟨g, 5, none⟩ = some (.int .i64 0) := (hvx.cellAt 5 (by decide)).trans rfl
  have c6 : w1.cell? ⟨g, 6, none⟩ = some (.int .u8 4) := (hvx.cellAt 6 (by decide)).trans rfl
  have c7 : w1.cell? ⟨g, 7, none⟩ = some (.int .i64 3) := (hvx.cellAt 7 (by decide)).trans rfl
  have c8 : w1.cell? ⟨g, 8, none⟩ = some (.int .i64 0) := (hvx.cellAt 8 (by decide)).trans rfl
  have c9 : w1.cell? ⟨g, 9, none⟩ = some (.int .u8 1) := (hvx.cellAt 9 (by decide)).trans rfl
  have c10 : w1.cell? ⟨g, 10, none⟩ = some (.int .i64 4) := (hvx.cellAt 10 (by decide)).trans rfl
  have c11 : w1.cell? ⟨g, 11, none⟩ = some (.int .i64 0) := (hvx.cellAt 11 (by decide)).trans rfl
  have hx2 := hX.take 2 (by decide)
  have hL1 : chk exam29 = 0 ∧ accW exam29 1 false = 0 ∧ accL exam29 1 false = [⟨1, 1, 0⟩, ⟨4, 3, 0⟩] ∧ accG exam29 1 false = [⟨1, 2, 0⟩, ⟨1, 4, 0⟩] := by decide
  have hL2 : chk exam29 = 0 ∧ accW exam29 2 true = 0 ∧ accL exam29 2 true = exam29.take 2 ∧ accG exam29 2 true = [⟨4, 3, 0⟩, ⟨1, 4, 0⟩] := by decide
  have hL3 : chk exam29 = 0 ∧ accW exam29 3 true = 1 ∧ accL exam29 3 true = [] ∧ accG exam29 3 true = [] := by decide
  have hs1 : ∀ w, (Instr.slice 23 (.slice (some ⟨g, 0, none⟩) 4 cap) none (some (.int .i64 2)) none).run Try.prog w = .ok (.slice (some ⟨g, 0, none⟩) 2 cap) w := slice_upto_Stack (some ⟨g, 0, none⟩) exam29 cap 2 2 rfl (by omega)
  have hid_hL1 := Lib.hid hL1; clear hL1; have hL1 := hid_hL1; clear hid_hL1; have hid_hL2 := Lib.hid hL2; clear hL2; have hL2 := hid_hL2; clear hid_hL2; have hid_hL3 := Lib.hid hL3; clear hL3; have hL3 := hid_hL3; clear hid_hL3
  have hid_hX := Lib.hid hX; clear hX; have hX := hid_hX; clear hid_hX; have hid_hx2 := Lib.hid hx2; clear hx2; have hx2 := hid_hx2; clear hid_hx2
  clear hvx
  go_wp2
  have hSk : ∀ w' w'' : World, (w'.cell? ⟨g, 0, none⟩ = some (.int .u8 1) ∧ w'.cell? ⟨g, 1, none⟩ = some (.int .i64 1) ∧ w'.cell? ⟨g, 2, none⟩ = some (.int .i64 0) ∧ w'.cell? ⟨g, 3, none⟩ = some (.int .u8 1) ∧ w'.cell? ⟨g, 4, none⟩ = some (.int .i64 2) ∧ w'.cell? ⟨g, 5, none⟩ = some (.int .i64 0) ∧ w'.cell? ⟨g, 6, none⟩ = some (.int .u8 4) ∧ w'.cell? ⟨g, 7, none⟩ = some (.int .i64 3) ∧ w'.cell? ⟨g, 8, none⟩ = some (.int .i64 0) ∧ w'.cell? ⟨g, 9, none⟩ = some (.int .u8 1) ∧ w'.cell? ⟨g, 10, none⟩ = some (.int .i64 4) ∧ w'.cell? ⟨g, 11, none⟩ = some (.int .i64 0) ∧ Ext w1 w') → Ext w' w'' → (w''.cell? ⟨g, 0, none⟩ = some (.int .u8 1) ∧ w''.cell? ⟨g, 1, none⟩ = some (.int .i64 1) ∧ w''.cell? ⟨g, 2, none⟩ = some (.int .i64 0) ∧ w''.cell? ⟨g, 3, none⟩ = some (.int .u8 1) ∧ w''.cell? ⟨g, 4, none⟩ = some (.int .i64 2) ∧ w''.cell? ⟨g, 5, none⟩ = some (.int .i64 0) ∧ w''.cell? ⟨g, 6, none⟩ = some (.int .u8 4) ∧ w''.cell? ⟨g, 7, none⟩ = some (.int .i64 3) ∧ w''.cell? ⟨g, 8, none⟩ = some (.int .i64 0) ∧ w''.cell? ⟨g, 9, none⟩ = some (.int .u8 1) ∧ w''.cell? ⟨g, 10, none⟩ = some (.int .i64 4) ∧ w''.cell? ⟨g, 11, none⟩ = some (.int .i64 0) ∧ Ext w1 w'') := by
    rintro w' w'' ⟨k0, k1, k2, k3, k4, k5, k6, k7, k8, k9, k10, k11, kE⟩ h
    exact ⟨h.cell k0, h.cell k1, h.cell k2, h.cell k3, h.cell k4, h.cell k5, h.cell k6, h.cell k7, h.cell k8, h.cell k9, h.cell k10, h.cell k11, Ext.trans kE h⟩
  go_region_held3 (fun w' => (w'.cell? ⟨g, 0, none⟩ = some (.int .u8 1) ∧ w'.cell? ⟨g, 1, none⟩ = some (.int .i64 1) ∧ w'.cell? ⟨g, 2, none⟩ = some (.int .i64 0) ∧ w'.cell? ⟨g, 3, none⟩ = some (.int .u8 1) ∧ w'.cell? ⟨g, 4, none⟩ = some (.int .i64 2) ∧ w'.cell? ⟨g, 5, none⟩ = some (.int .i64 0) ∧ w'.cell? ⟨g, 6, none⟩ = some (.int .u8 4) ∧ w'.cell? ⟨g, 7, none⟩ = some (.int .i64 3) ∧ w'.cell? ⟨g, 8, none⟩ = some (.int .i64 0) ∧ w'.cell? ⟨g, 9, none⟩ = some (.int .u8 1) ∧ w'.cell? ⟨g, 10, none⟩ = some (.int .i64 4) ∧ w'.cell? ⟨g, 11, none⟩ = some (.int .i64 0) ∧ Ext w1 w')) (first | assumption | exact ⟨c0, c1, c2, c3, c4, c5, c6, c7, c8, c9, c10, c11, (Ext.refl _).drew⟩ | (refine hSk _ _ (by assumption) ?_; first | assumption | exact (Ext.refl _).alloc _ | exact ((Ext.refl _).alloc _).drew)) (first | (go_at_call 18; have _was := hR2; refine (law29_leaves 2 true (want := exam29.take 2) (gone := [⟨4, 3, 0⟩, ⟨1, 4, 0⟩]) (hX.out.ext ?_) (hx2.out.ext ?_) (by (repeat (first | exact Its.lit _ _ _ _ _ (by simp) rfl (by simp [maxLen]) rfl | refine Its.ext ?_ (Ext.refl _).drew | refine Its.ext ?_ ((Ext.refl _).alloc _) | refine Its.ext ?_ (by assumption)))) hL2.out).mono ?_; (exact And.right (And.right (And.right (And.right (And.right (And.right (And.right (And.right (And.right (And.right (And.right (And.right (by assumption))))))))))))); (exact And.right (And.right (And.right (And.right (And.right (And.right (And.right (And.right (And.right (And.right (And.right (And.right (by assumption))))))))))))); rintro e wr0 ⟨rfl, hR0⟩) | (go_at_call 19; refine (law29_none 3 true (hX.out.ext ?_) hL3.out).mono ?_; (exact And.right (And.right (And.right (And.right (And.right (And.right (And.right (And.right (And.right (And.right (And.right (And.right (by assumption))))))))))))); rintro e wr1 ⟨rfl, hR1⟩) | (go_at_call 18; refine (law29_leaves 1 false (want := [⟨1, 1, 0⟩, ⟨4, 3, 0⟩]) (gone := [⟨1, 2, 0⟩, ⟨1, 4, 0⟩]) (hX.out.ext ?_) (by (repeat (first | exact Its.lit _ _ _ _ _ (by simp) rfl (by simp [maxLen]) rfl | refine Its.ext ?_ (Ext.refl _).drew | refine Its.ext ?_ ((Ext.refl _).alloc _) | refine Its.ext ?_ (by assumption)))) (by (repeat (first | exact Its.lit _ _ _ _ _ (by simp) rfl (by simp [maxLen]) rfl | refine Its.ext ?_ (Ext.refl _).drew | refine Its.ext ?_ ((Ext.refl _).alloc _) | refine Its.ext ?_ (by assumption)))) hL1.out).mono ?_; (exact And.right (And.right (And.right (And.right (And.right (And.right (And.right (And.right (And.right (And.right (And.right (And.right (by assumption))))))))))))); rintro e wr2 ⟨rfl, hR2⟩))
  all_goals
    go_wp2
    go_ret
    exact ⟨rfl, hE1.trans (And.right (And.right (And.right (And.right (And.right (And.right (And.right (And.right (And.right (And.right (And.right (And.right (by assumption)))))))))))))⟩

end Go.Proofs.Ytcndhbkbbmgeeaa
