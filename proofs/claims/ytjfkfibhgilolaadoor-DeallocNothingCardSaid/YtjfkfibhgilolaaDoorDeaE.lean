/- The chapter's example of layer 34. (printed by gen/dea34b.py) -/
import Derived.Test.YtjfkfibhgilolaaDoorDeaC
import Derived.Test.YtjfkfibhgilolaaDoorStkI
namespace Go.Proofs.YtjfkfibhgilolaaDoor
set_option maxRecDepth 100000
open Go.RowKit

theorem greatK_smallE {l : List (List Item)} (h : greatK l = false) : l.length ≤ 1000000 ∧ ∀ x ∈ l, x.length ≤ 1000000 := by
  unfold greatK at h
  rw [Bool.or_eq_false_iff, decide_eq_false_iff_not] at h
  refine ⟨by omega, fun x hx => ?_⟩
  have := List.any_eq_false.1 h.1 x (by rw [List.take_of_length_le (by omega)]; exact hx)
  simp [wideS] at this
  omega

theorem alive34_data : ∃ (X Y : List (List Item)), newK 1 2 1 = (⟨1, X⟩, 0) ∧ tag33 ⟨1, X⟩ 0 2 1 1 ⟨0, 2, 5⟩ [] = (⟨1, Y⟩, 0, 0) ∧ endR34 ⟨1, X⟩ [5] = (0, 0) ∧ endR34 ⟨1, Y⟩ [4, 5] = (2, 0) ∧ endR34 ⟨1, Y⟩ [4, 6] = (0, 0) :=
  ⟨[[⟨1, 1, 0⟩], [⟨1, 1, 0⟩]], [[⟨1, 1, 0⟩, ⟨4, 2, 5⟩], [⟨1, 1, 0⟩, ⟨4, 2, 5⟩]], by decide +kernel⟩

set_option maxRecDepth 100000 in
set_option maxHeartbeats 1600000 in
theorem law34_may_yes {l : List (List Item)} {run : List Int} {num want : Int} {s v : Value} {w : World} (hl : Sts w s l) (hr : Nts w v run) (hE : endR34 ⟨num, l⟩ run = (want, 0)) :
    Calls Tryd.prog 51 #[.agg #[.int .i64 num, s], v, .int .u8 want] w fun e w' => e = .returned (.bool true) ∧ Ext w w' := by
  have hF := (Ext.refl w).alloc (.cells #[.int .i64 num, s] 56)
  have hL : Sts _ s l := hl.ext hF
  have hR : Nts _ v run := hr.ext hF
  have hq := Lib.hid hE
  obtain ⟨a, cp, rfl, -⟩ := hl.form
  obtain ⟨a2, cp2, rfl, -⟩ := hr.form
  clear hl hr hE
  go_enter Tryd.func51, Tryd.ntmps51
  go_wp2_with fail
  refine (dealloc_End hL hR).mono ?_
  rintro e w1 ⟨rfl, hE1⟩
  rw [hq.out]
  go_wp2
  go_ret
  exact ⟨rfl, hF.trans hE1⟩

set_option maxRecDepth 100000 in
set_option maxHeartbeats 6400000 in
theorem law34_alive {w : World} (hp : Perms w) : Calls Tryd.prog 45 #[] w fun e w' => e = .returned (.bool true) ∧ Ext w w' := by
  obtain ⟨X, Y, e1, e2, e3, e4, e5⟩ := alive34_data
  replace e1 := Lib.hid e1
  replace e2 := Lib.hid e2
  replace e3 := Lib.hid e3
  replace e4 := Lib.hid e4
  replace e5 := Lib.hid e5
  go_enter Tryd.func45, Tryd.ntmps45
  go_wp2_with fail
  refine (stacks_New 1 2 1 _).mono ?_
  rintro e w1 ⟨vh1, vsh1, rfl, oh1, hZ0⟩
  have hE0 : Ext w w1 := Ext.trans (by repeat (first | exact Ext.refl _ | apply Ext.alloc | apply Ext.drew)) hZ0
  replace hp := hp.ext hE0
  have hF0 := Ext.trans (Ext.refl w) hE0
  rw [e1.out] at oh1 ⊢
  dsimp only at oh1 ⊢
  have h1 : Sts _ _ X := oh1.sts
  obtain ⟨ah1, ch1, rfl, -⟩ := h1.form
  clear oh1
  go_wp2_with fail
  have bh1 := Box.new w1 56 #[.int .i64 1, .slice ah1 X.length ch1]
  have hsz : Hid ((World.alloc w1 (.cells #[.int .i64 1, .slice ah1 X.length ch1] 56)).heap.size = w1.heap.size + 1) := Hid.mk (by simp)
  have hx1 : Ext w1 (World.alloc w1 (.cells #[.int .i64 1, .slice ah1 X.length ch1] 56)) := (Ext.refl _).alloc _
  obtain ⟨w1b, hw1⟩ : ∃ x, World.alloc w1 (.cells #[.int .i64 1, .slice ah1 X.length ch1] 56) = x := ⟨_, rfl⟩
  rw [hw1] at hsz bh1 hx1 ⊢
  clear hw1
  replace hp := hp.ext hx1
  replace h1 := h1.ext hx1
  have hF1 := Ext.trans (hF0) hx1
  refine (stacks_Retag (run := []) (hp.ext (by repeat (first | exact Ext.refl _ | apply Ext.alloc | apply Ext.drew))) ⟨by decide, by decide⟩ 1 ⟨0, 2, 5⟩ (h1.ext (by repeat (first | exact Ext.refl _ | apply Ext.alloc | apply Ext.drew))) (by (repeat (first | exact Nts.nil _ | exact Nts.litl _ _ _ _ _ (by first | (simp; done) | exact hsz.out | (have := hsz.out; simp; omega)) rfl (by simp [maxLen]) rfl | refine Nts.ext ?_ (Ext.refl _).drew | refine Nts.ext ?_ ((Ext.refl _).alloc _) | refine Nts.ext ?_ (by assumption))))).mono ?_
  rintro e w3 ⟨vh2, vsh2, rfl, oh2, hZ2⟩
  have hE2 : Ext w1b w3 := Ext.trans (by repeat (first | exact Ext.refl _ | apply Ext.alloc | apply Ext.drew)) hZ2
  replace hp := hp.ext hE2
  replace h1 := h1.ext hE2
  replace bh1 := bh1.ext hE2
  have hF2 := Ext.trans (hF1) hE2
  rw [e2.out] at oh2 ⊢
  dsimp only at oh2 ⊢
  have h2 : Sts _ _ Y := oh2.sts
  obtain ⟨ah2, ch2, rfl, -⟩ := h2.form
  clear oh2
  have bh1_0 : World.cell? w3 ⟨w1.heap.size, 0, none⟩ = some (.int .i64 1) := bh1.cell 0
  have bh1_1 : World.cell? w3 ⟨w1.heap.size, 1, none⟩ = some (.slice ah1 X.length ch1) := bh1.cell 1
  have bh1_l := bh1.lt
  go_wp2_with fail
  clear bh1_0 bh1_1 bh1_l
  have bh2 := Box.new w3 56 #[.int .i64 1, .slice ah2 Y.length ch2]
  have hsz : Hid ((World.alloc w3 (.cells #[.int .i64 1, .slice ah2 Y.length ch2] 56)).heap.size = w3.heap.size + 1) := Hid.mk (by simp)
  have hx3 : Ext w3 (World.alloc w3 (.cells #[.int .i64 1, .slice ah2 Y.length ch2] 56)) := (Ext.refl _).alloc _
  obtain ⟨w3b, hw3⟩ : ∃ x, World.alloc w3 (.cells #[.int .i64 1, .slice ah2 Y.length ch2] 56) = x := ⟨_, rfl⟩
  rw [hw3] at hsz bh2 hx3 ⊢
  clear hw3
  replace hp := hp.ext hx3
  replace h1 := h1.ext hx3
  replace bh1 := bh1.ext hx3
  replace h2 := h2.ext hx3
  have hF3 := Ext.trans (hF2) hx3
  refine (law34_may_yes (run := [5]) (h1.ext (by repeat (first | exact Ext.refl _ | apply Ext.alloc | apply Ext.drew))) (by (repeat (first | exact Nts.nil _ | exact Nts.litl _ _ _ _ _ (by first | (simp; done) | exact hsz.out | (have := hsz.out; simp; omega)) rfl (by simp [maxLen]) rfl | refine Nts.ext ?_ (Ext.refl _).drew | refine Nts.ext ?_ ((Ext.refl _).alloc _) | refine Nts.ext ?_ (by assumption)))) e3.out).mono ?_
  rintro e w5 ⟨rfl, hZ4⟩
  have hE4 : Ext w3b w5 := Ext.trans (by repeat (first | exact Ext.refl _ | apply Ext.alloc | apply Ext.drew)) hZ4
  replace hp := hp.ext hE4
  replace h1 := h1.ext hE4
  replace bh1 := bh1.ext hE4
  replace h2 := h2.ext hE4
  replace bh2 := bh2.ext hE4
  have hF4 := Ext.trans (hF3) hE4
  have bh1_0 : World.cell? w5 ⟨w1.heap.size, 0, none⟩ = some (.int .i64 1) := bh1.cell 0
  have bh1_1 : World.cell? w5 ⟨w1.heap.size, 1, none⟩ = some (.slice ah1 X.length ch1) := bh1.cell 1
  have bh1_l := bh1.lt
  have bh2_0 : World.cell? w5 ⟨w3.heap.size, 0, none⟩ = some (.int .i64 1) := bh2.cell 0
  have bh2_1 : World.cell? w5 ⟨w3.heap.size, 1, none⟩ = some (.slice ah2 Y.length ch2) := bh2.cell 1
  have bh2_l := bh2.lt
  go_wp2_with fail
  clear bh1_0 bh1_1 bh1_l
  clear bh2_0 bh2_1 bh2_l
  refine (law34_may_yes (run := [4, 5]) (h2.ext (by repeat (first | exact Ext.refl _ | apply Ext.alloc | apply Ext.drew))) (by (repeat (first | exact Nts.nil _ | exact Nts.litl _ _ _ _ _ (by first | (simp; done) | exact hsz.out | (have := hsz.out; simp; omega)) rfl (by simp [maxLen]) rfl | refine Nts.ext ?_ (Ext.refl _).drew | refine Nts.ext ?_ ((Ext.refl _).alloc _) | refine Nts.ext ?_ (by assumption)))) e4.out).mono ?_
  rintro e w6 ⟨rfl, hZ5⟩
  have hE5 : Ext w5 w6 := Ext.trans (by repeat (first | exact Ext.refl _ | apply Ext.alloc | apply Ext.drew)) hZ5
  replace hp := hp.ext hE5
  replace h1 := h1.ext hE5
  replace bh1 := bh1.ext hE5
  replace h2 := h2.ext hE5
  replace bh2 := bh2.ext hE5
  have hF5 := Ext.trans (hF4) hE5
  have bh1_0 : World.cell? w6 ⟨w1.heap.size, 0, none⟩ = some (.int .i64 1) := bh1.cell 0
  have bh1_1 : World.cell? w6 ⟨w1.heap.size, 1, none⟩ = some (.slice ah1 X.length ch1) := bh1.cell 1
  have bh1_l := bh1.lt
  have bh2_0 : World.cell? w6 ⟨w3.heap.size, 0, none⟩ = some (.int .i64 1) := bh2.cell 0
  have bh2_1 : World.cell? w6 ⟨w3.heap.size, 1, none⟩ = some (.slice ah2 Y.length ch2) := bh2.cell 1
  have bh2_l := bh2.lt
  go_wp2_with fail
  clear bh1_0 bh1_1 bh1_l
  clear bh2_0 bh2_1 bh2_l
  refine (law34_may_yes (run := [4, 6]) (h2.ext (by repeat (first | exact Ext.refl _ | apply Ext.alloc | apply Ext.drew))) (by (repeat (first | exact Nts.nil _ | exact Nts.litl _ _ _ _ _ (by first | (simp; done) | exact hsz.out | (have := hsz.out; simp; omega)) rfl (by simp [maxLen]) rfl | refine Nts.ext ?_ (Ext.refl _).drew | refine Nts.ext ?_ ((Ext.refl _).alloc _) | refine Nts.ext ?_ (by assumption)))) e5.out).mono ?_
  rintro e w7 ⟨rfl, hZ6⟩
  have hE6 : Ext w6 w7 := Ext.trans (by repeat (first | exact Ext.refl _ | apply Ext.alloc | apply Ext.drew)) hZ6
  replace hp := hp.ext hE6
  replace h1 := h1.ext hE6
  replace bh1 := bh1.ext hE6
  replace h2 := h2.ext hE6
  replace bh2 := bh2.ext hE6
  have hF6 := Ext.trans (hF5) hE6
  have bh1_0 : World.cell? w7 ⟨w1.heap.size, 0, none⟩ = some (.int .i64 1) := bh1.cell 0
  have bh1_1 : World.cell? w7 ⟨w1.heap.size, 1, none⟩ = some (.slice ah1 X.length ch1) := bh1.cell 1
  have bh1_l := bh1.lt
  have bh2_0 : World.cell? w7 ⟨w3.heap.size, 0, none⟩ = some (.int .i64 1) := bh2.cell 0
  have bh2_1 : World.cell? w7 ⟨w3.heap.size, 1, none⟩ = some (.slice ah2 Y.length ch2) := bh2.cell 1
  have bh2_l := bh2.lt
  go_wp2
  go_ret
  exact ⟨rfl, hF6⟩

end Go.Proofs.YtjfkfibhgilolaaDoor
