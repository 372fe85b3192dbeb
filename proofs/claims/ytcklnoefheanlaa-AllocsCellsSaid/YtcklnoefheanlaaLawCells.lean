/- The statement AllocsCells: for every cell the call returns true. No condition. -/
import Derived.Test.YtcklnoefheanlaaCelW2
import Derived.Test.YtcklnoefheanlaaReadM
import Derived.Test.YtcklnoefheanlaaClose
import Derived.Deep.RegionHeld3
import Derived.Deep.DeepMust
namespace Go.Proofs.Ytcklnoefheanlaa
open Go.ChangeShapes Go.WideShapes Go.ChangeAt Go.RowKit

theorem memErr_one (c : Cell) : memErr [⟨0, true, [c]⟩] 1 = cellErr c := by
  cases h : c.ok <;> simp [memErr, cellErr, okM, okAl, inB, h]

set_option maxHeartbeats 3200000 in
theorem allocsCells_walk (c : Cell) (w : World) :
    Calls Try.prog 3 #[c.val] w fun e w' => e = .returned (.bool true) ∧ Ext w w' := by
  have hM1 := memErr_one c
  obtain ⟨n, hn⟩ : ∃ n, cellErr c = n := ⟨_, rfl⟩
  have hCk : Hid (∀ w, Calls Try.prog 16 #[c.val] w fun e w' => e = .returned (.int .i64 n) ∧ Ext w w') := Hid.mk (fun w => (allocs_CheckCell c w).mono fun e w' h => ⟨by rw [h.1, hn], h.2⟩)
  have hRk : Hid (∀ w, Calls Try.prog 17 #[c.val] w fun e w' => e = .returned (.int .i64 n) ∧ Ext w w') := Hid.mk (fun w => (ref26_CheckCell c w).mono fun e w' h => ⟨by rw [h.1, hn], h.2⟩)
  have hAk : Hid (∀ s w, Als w s [⟨0, true, [c]⟩] → Calls Try.prog 18 #[.agg #[s, .int .i64 1]] w fun e w' => e = .returned (.int .i64 n) ∧ Ext w w') :=
    Hid.mk (fun s w hs => (allocs_Check (next := 1) hs (by unfold i64B; omega)).mono fun e w' h => ⟨by rw [h.1, hM1, hn], h.2⟩)
  clear hn hM1
  have hF0 := (((Ext.refl w).alloc (.cells c.row.toArray 25)).alloc (.cells c.row.toArray 25)).alloc (.cells #[.int .i64 0, .bool true, .slice (some ⟨w.heap.size + 1, 0, none⟩) 1 1] 28)
  have hOc := Own.lit' (B := 0) (e := 25) (k := 5) (w.alloc (.cells c.row.toArray 25)) c.row.toArray 1 (Nat.zero_le _) (by simp [maxLen]) rfl
  rw [World.size_alloc] at hOc
  have hOa := (Own.lit' (B := 0) (e := 28) (k := 3) ((w.alloc (.cells c.row.toArray 25)).alloc (.cells c.row.toArray 25)) #[.int .i64 0, .bool true, .slice (some ⟨w.heap.size + 1, 0, none⟩) 1 1] 1 (Nat.zero_le _) (by simp [maxLen]) rfl).sl
  rw [World.size_alloc, World.size_alloc] at hOa
  have hAl : Als ((((w.alloc (.cells c.row.toArray 25)).alloc (.cells c.row.toArray 25)).alloc (.cells #[.int .i64 0, .bool true, .slice (some ⟨w.heap.size + 1, 0, none⟩) 1 1] 28))) (.slice (some ⟨w.heap.size + 1 + 1, 0, none⟩) 1 1) [⟨0, true, [c]⟩] :=
    ⟨[.slice (some ⟨w.heap.size + 1, 0, none⟩) 1 1], ⟨Sl.ext (by simpa using hOc.sl) ((Ext.refl _).alloc _), trivial⟩, hOa⟩
  have hAl := Lib.hid hAl
  clear hOc hOa
  obtain ⟨k, m, a, o, t⟩ := c
  unfold Cell.val at *
  unfold Cell.row at *
  go_enter Try.func3, Try.ntmps3
  go_wp2
  obtain ⟨w1, hw1⟩ : ∃ w1, (((w.alloc (.cells #[.int .u8 k, .int .i64 m, .int .i64 a, .int .i64 o, .int .i64 t] 25)).alloc (.cells #[.int .u8 k, .int .i64 m, .int .i64 a, .int .i64 o, .int .i64 t] 25)).alloc (.cells #[.int .i64 0, .bool true, .slice (some ⟨w.heap.size + 1, 0, none⟩) 1 1] 28)).alloc (.cells #[.slice (some ⟨w.heap.size + 1 + 1, 0, none⟩) 1 1, .int .i64 1] 31) = w1 := ⟨_, rfl⟩
  have bC : Box w1 w.heap.size 25 #[.int .u8 k, .int .i64 m, .int .i64 a, .int .i64 o, .int .i64 t] := by rw [← hw1]; exact ((((Box.new w 25 #[.int .u8 k, .int .i64 m, .int .i64 a, .int .i64 o, .int .i64 t]).ext ((Ext.refl _).alloc _)).ext ((Ext.refl _).alloc _)).ext ((Ext.refl _).alloc _))
  have bM : Box w1 (w.heap.size + 1 + 1 + 1) 31 #[.slice (some ⟨w.heap.size + 1 + 1, 0, none⟩) 1 1, .int .i64 1] := by rw [← hw1]; have := Box.new (((w.alloc (.cells #[.int .u8 k, .int .i64 m, .int .i64 a, .int .i64 o, .int .i64 t] 25)).alloc (.cells #[.int .u8 k, .int .i64 m, .int .i64 a, .int .i64 o, .int .i64 t] 25)).alloc (.cells #[.int .i64 0, .bool true, .slice (some ⟨w.heap.size + 1, 0, none⟩) 1 1] 28)) 31 #[.slice (some ⟨w.heap.size + 1 + 1, 0, none⟩) 1 1, .int .i64 1]; simp only [World.size_alloc] at this; exact this
  have c0 : w1.cell? ⟨w.heap.size, 0, none⟩ = some (.int .u8 k) := bC.cell 0
  have c1 : w1.cell? ⟨w.heap.size, 1, none⟩ = some (.int .i64 m) := bC.cell 1
  have c2 : w1.cell? ⟨w.heap.size, 2, none⟩ = some (.int .i64 a) := bC.cell 2
  have c3 : w1.cell? ⟨w.heap.size, 3, none⟩ = some (.int .i64 o) := bC.cell 3
  have c4 : w1.cell? ⟨w.heap.size, 4, none⟩ = some (.int .i64 t) := bC.cell 4
  have m0 : w1.cell? ⟨w.heap.size + 1 + 1 + 1, 0, none⟩ = some (.slice (some ⟨w.heap.size + 1 + 1, 0, none⟩) 1 1) := bM.cell 0
  have m1 : w1.cell? ⟨w.heap.size + 1 + 1 + 1, 1, none⟩ = some (.int .i64 1) := bM.cell 1
  have hF1 : Ext w w1 := by rw [← hw1]; exact hF0.alloc _
  have hAl1 := Lib.hid (show Als w1 _ _ by rw [← hw1]; exact hAl.out.ext ((Ext.refl _).alloc _))
  rw [hw1]
  clear hw1 hF0 hAl
  have hSk : ∀ w' w'' : World, (w'.cell? ⟨w.heap.size, 0, none⟩ = some (.int .u8 k) ∧ w'.cell? ⟨w.heap.size, 1, none⟩ = some (.int .i64 m) ∧ w'.cell? ⟨w.heap.size, 2, none⟩ = some (.int .i64 a) ∧ w'.cell? ⟨w.heap.size, 3, none⟩ = some (.int .i64 o) ∧ w'.cell? ⟨w.heap.size, 4, none⟩ = some (.int .i64 t) ∧ w'.cell? ⟨w.heap.size + 1 + 1 + 1, 0, none⟩ = some (.slice (some ⟨w.heap.size + 1 + 1, 0, none⟩) 1 1) ∧ w'.cell? ⟨w.heap.size + 1 + 1 + 1, 1, none⟩ = some (.int .i64 1) ∧ Ext w1 w') → Ext w' w'' → (w''.cell? ⟨w.heap.size, 0, none⟩ = some (.int .u8 k) ∧ w''.cell? ⟨w.heap.size, 1, none⟩ = some (.int .i64 m) ∧ w''.cell? ⟨w.heap.size, 2, none⟩ = some (.int .i64 a) ∧ w''.cell? ⟨w.heap.size, 3, none⟩ = some (.int .i64 o) ∧ w''.cell? ⟨w.heap.size, 4, none⟩ = some (.int .i64 t) ∧ w''.cell? ⟨w.heap.size + 1 + 1 + 1, 0, none⟩ = some (.slice (some ⟨w.heap.size + 1 + 1, 0, none⟩) 1 1) ∧ w''.cell? ⟨w.heap.size + 1 + 1 + 1, 1, none⟩ = some (.int .i64 1) ∧ Ext w1 w'') := by
    rintro w' w'' ⟨k0, k1, k2, k3, k4, k5, k6, kE⟩ h
    exact ⟨h.cell k0, h.cell k1, h.cell k2, h.cell k3, h.cell k4, h.cell k5, h.cell k6, Ext.trans kE h⟩
  go_region_held3 (fun w' => (w'.cell? ⟨w.heap.size, 0, none⟩ = some (.int .u8 k) ∧ w'.cell? ⟨w.heap.size, 1, none⟩ = some (.int .i64 m) ∧ w'.cell? ⟨w.heap.size, 2, none⟩ = some (.int .i64 a) ∧ w'.cell? ⟨w.heap.size, 3, none⟩ = some (.int .i64 o) ∧ w'.cell? ⟨w.heap.size, 4, none⟩ = some (.int .i64 t) ∧ w'.cell? ⟨w.heap.size + 1 + 1 + 1, 0, none⟩ = some (.slice (some ⟨w.heap.size + 1 + 1, 0, none⟩) 1 1) ∧ w'.cell? ⟨w.heap.size + 1 + 1 + 1, 1, none⟩ = some (.int .i64 1) ∧ Ext w1 w')) (first | assumption | exact ⟨c0, c1, c2, c3, c4, m0, m1, (Ext.refl _).drew⟩ | (refine hSk _ _ (by assumption) ?_; first | assumption | exact (Ext.refl _).alloc _ | exact ((Ext.refl _).alloc _).drew)) (first | (go_at_call 16; refine (hCk.out _).mono ?_; rintro e wr0 ⟨rfl, hR0⟩) | (go_at_call 17; refine (hRk.out _).mono ?_; rintro e wr1 ⟨rfl, hR1⟩) | (go_at_call 18; refine (hAk.out _ _ (hAl1.out.ext ?_)).mono ?_; (exact And.right (And.right (And.right (And.right (And.right (And.right (And.right (by assumption)))))))); rintro e wr2 ⟨rfl, hR2⟩))
  all_goals
    have hRR := And.right (And.right (And.right (And.right (And.right (And.right (And.right (by assumption : (World.cell? _ ⟨w.heap.size, 0, none⟩ = some (.int .u8 k) ∧ World.cell? _ ⟨w.heap.size, 1, none⟩ = some (.int .i64 m) ∧ World.cell? _ ⟨w.heap.size, 2, none⟩ = some (.int .i64 a) ∧ World.cell? _ ⟨w.heap.size, 3, none⟩ = some (.int .i64 o) ∧ World.cell? _ ⟨w.heap.size, 4, none⟩ = some (.int .i64 t) ∧ World.cell? _ ⟨w.heap.size + 1 + 1 + 1, 0, none⟩ = some (.slice (some ⟨w.heap.size + 1 + 1, 0, none⟩) 1 1) ∧ World.cell? _ ⟨w.heap.size + 1 + 1 + 1, 1, none⟩ = some (.int .i64 1) ∧ Ext w1 _))))))))
    go_wp2
    go_ret
    exact ⟨rfl, hF1.trans hRR⟩

set_option maxRecDepth 100000 in
theorem allocsCells_lifted (os : Os) (started : os.Started) (H : Type) (enc : TypeId × Value → H) :
    ReturnsInHanded {} Try.checked os 3 .any (Rows.allocsCellsSpec.pre6 enc Try.prog Try.f3 Rows.allocsCellsRow.domain false) (Rows.allocsCellsSpec.post enc Try.prog Try.f3 false true false false) := by
  refine returnsInHanded_of_change (C := Try.checked) Tryown started (by kernel_rfl) Try.func3
    (ChangeSpec.witness6 (enc := enc) (C := Try.checked) false ⟨#[], #[.agg #[.int .u8 0, .int .i64 0, .int .i64 0, .int .i64 0, .int .i64 0]], []⟩ 8 (by kernel_rfl) (by kernel_rfl) (by kernel_rfl) (by kernel_rfl)) ?_
  intro W base args ds gs before hval0 hW _ _
  have hval : ∀ (j : Nat) t v, Try.f3.params[j]? = some t → args[j]? = some v → Value.okWide Try.prog W .any base t v := hval0
  have hW' := hW
  obtain ⟨p, q, hA0, hV, rfl, hfz, hnd⟩ := hW
  have hA : DataW.TrodAll enc Try.prog W 0 (fun _ => true) true Try.f3.params.toList args.toList ds p := hA0
  rw [Try.params3] at hA hval
  obtain ⟨v0, vs0, d0, ds0, p0, q0, hargs, rfl, rfl, h0, r0⟩ := trodAll_cons hA
  obtain ⟨rfl, rfl, rfl⟩ := trodAll_nil r0
  obtain rfl : args = #[v0] := by cases args; simp_all
  obtain ⟨x0, rfl, wf0⟩ := open_cellv (hval 0 25 v0 rfl rfl) h0
  refine (allocsCells_walk x0 _).mono fun e W' ⟨he, hb⟩ => ?_
  subst he
  exact ⟨_, rfl, post_law TrylaidOut (tb := 4) rfl Try.underlying4 (by kernel_rfl) rfl (fun ds hd => match ds, hd with | [a0], _ => rfl) hW' hb⟩

theorem allocsCells_holds : Rows.AllocsCellsSaid :=
  OpenClaim.holds_of_wide 3 Try.f3 rfl rfl rfl rfl rfl rfl rfl ⟨rfl, rfl, rfl, rfl, rfl⟩ rfl rfl rfl rfl rfl (by kernel_rfl) Try.func3 (by kernel_rfl)
    (of_decide_eq_true (by kernel_rfl)) (by unfold Func.isWrapper; first | (rw [if_pos (by decide +kernel)]; kernel_rfl) | (rw [if_neg (by decide +kernel)]; exact ⟨rfl, rfl⟩))
    (fun os started H enc _ => allocsCells_lifted os started H enc)

end Go.Proofs.Ytcklnoefheanlaa
