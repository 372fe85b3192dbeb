/- Contracts: the helpers of the statements of layer 30; the plain laws that they need. -/
import Derived.Test.YtkbocenpkdaogaaDoorGrdG
import Derived.Test.YtkbocenpkdaogaaDoorDoor
namespace Go.Proofs.YtkbocenpkdaogaaDoor
set_option maxRecDepth 100000
open Go.ChangeShapes Go.WideShapes Go.ChangeAt Go.RowKit


/-- What retagging leaves, if there is no error. -/
theorem retag_spec {l R G : List Item} {k old why : Int} {x : Item} (hok : okS l = true) (h : retagR l k old x = (R, G, why, 0)) :
    kindErr k = 0 ∧ kindOk k = true ∧ why = usedW l old (writesOf k) ∧ argOk x = true ∧
      ((why = 1 ∧ R = [] ∧ G = []) ∨ (why = 0 ∧ R = usedL l old (writesOf k) ++ [⟨permOf k, x.t, x.c⟩] ∧ G = usedG l old (writesOf k) ∧ ¬ (usedL l old (writesOf k)).length = 600)) := by
  cases ha : kindOk k && argOk x
  · rw [retagR_arg hok ha] at h
    simp at h
  · have ha' := ha
    rw [Bool.and_eq_true] at ha'
    rcases usedW_cases l old (writesOf k) with ⟨hu, -⟩ | ⟨hu, -⟩
    · by_cases hf : (usedL l old (writesOf k)).length = 600
      · rw [retagR_full hok ha hu hf] at h
        simp at h
      · rw [retagR_yes hok ha hu hf] at h
        simp only [Prod.mk.injEq, and_true] at h
        obtain ⟨rfl, rfl, rfl⟩ := h
        exact ⟨kindErr_yes ha'.1, ha'.1, hu.symm, ha'.2, .inr ⟨rfl, rfl, rfl, hf⟩⟩
    · rw [retagR_no hok ha (by rw [hu]; decide), hu] at h
      simp only [Prod.mk.injEq, and_true] at h
      obtain ⟨rfl, rfl, rfl⟩ := h
      exact ⟨kindErr_yes ha'.1, ha'.1, hu.symm, ha'.2, .inl ⟨rfl, rfl, rfl⟩⟩

theorem usedL_pos {l : List Item} {tag : Int} {write : Bool} (h : usedW l tag write = 0) : 1 ≤ (usedL l tag write).length := by
  unfold usedW at h
  unfold usedL
  cases hf : findAt l tag write with
  | none => simp [hf] at h
  | some i =>
    have := useLeft_pos (write := write) (findAt_is hf)
    exact this

theorem findAt_top {M : List Item} {n : Item} {tag : Int} {write : Bool} (h : grants tag write n = true) : findAt (M ++ [n]) tag write = some M.length := by
  refine findAt_some (x := n) (by simp) h ?_
  intro j y hj hy
  have := (List.getElem?_eq_some_iff.1 hy).1
  simp at this
  omega

set_option maxHeartbeats 800000 in
theorem law30_leaves {l want gone : List Item} {k : Int} {v v1 v2 : Value} {w : World} (hp : Perms w) (hk : u8B k) (old tag : Int) (hl : Its w v l) (hw : Its w v1 want) (hg : Its w v2 gone) (h : retagR l k old ⟨0, tag, 0⟩ = (want, gone, 0, 0)) :
    Calls Tryd.prog 46 #[v, .int .u8 k, .int .i64 old, .int .i64 tag, v1, v2] w fun e w' => e = .returned (.bool true) ∧ Ext w w' := by
  have hL := hl
  have hF0 := Ext.refl w
  obtain ⟨a, cp, rfl, -⟩ := hl.form
  obtain ⟨a1, c1, rfl, -⟩ := hw.form
  obtain ⟨a2, c2, rfl, -⟩ := hg.form
  replace h := Lib.hid h
  clear hl
  go_enter Tryd.func46, Tryd.ntmps46
  go_wp2_with fail
  refine (grant_RetagO hp hk old ⟨0, tag, 0⟩ hL).mono ?_
  rintro e w1 ⟨va, vb, rfl, oa, ob, -, hE1⟩
  have hF1 := hF0.trans hE1
  replace hw := hw.ext hE1
  replace hg := hg.ext hE1
  have ha : Its w1 va want := by rw [h.out] at oa; exact oa.sl
  have hb : Its w1 vb gone := by rw [h.out] at ob; exact ob.sl
  rw [h.out]
  clear oa ob
  obtain ⟨aa, ca, rfl, -⟩ := ha.form
  obtain ⟨ab, cb, rfl, -⟩ := hb.form
  go_wp2_with fail
  refine (ref28_Same_yes ha hw).mono ?_
  rintro e w2 ⟨rfl, hE2⟩
  have hF2 := hF1.trans hE2
  replace hw := hw.ext hE2
  replace hg := hg.ext hE2
  replace ha := ha.ext hE2
  replace hb := hb.ext hE2
  go_wp2_with fail
  refine (ref28_Same_yes hb hg).mono ?_
  rintro e w3 ⟨rfl, hE3⟩
  have hF3 := hF2.trans hE3
  replace hw := hw.ext hE3
  replace hg := hg.ext hE3
  replace ha := ha.ext hE3
  replace hb := hb.ext hE3
  go_wp2
  go_ret
  exact ⟨rfl, hF3⟩

def b30 : Item := ⟨1, 1, 0⟩
def t30 : Item := ⟨1, 2, 0⟩
def s30 : Item := ⟨4, 3, 0⟩
def r30 : Item := ⟨2, 4, 0⟩
theorem exam30_a : retagR [b30] 2 1 ⟨0, 2, 0⟩ = ([b30, t30], [], 0, 0) := by decide
theorem exam30_b : retagR [b30, t30] 1 2 ⟨0, 3, 0⟩ = ([b30, t30, s30], [], 0, 0) := by decide
theorem exam30_c : retagR [b30, t30, s30] 3 1 ⟨0, 4, 0⟩ = ([b30, s30, r30], [t30], 0, 0) := by decide

set_option maxHeartbeats 1600000 in
theorem law30_alive {w : World} (hp : Perms w) : Calls Tryd.prog 13 #[] w fun e w' => e = .returned (.bool true) ∧ Ext w w' := by
  have hF : Ext w (World.alloc (World.alloc (World.alloc w (.cells #[.int .u8 1, .int .i64 1, .int .i64 0] 23)) (.cells #[.int .u8 1, .int .i64 2, .int .i64 0] 23)) (.cells #[.int .u8 4, .int .i64 3, .int .i64 0] 23)) := ((((Ext.refl w).alloc _).alloc _).alloc _)
  have hP := hp.ext hF
  have bA := ((Box.new w 23 #[.int .u8 1, .int .i64 1, .int .i64 0]).ext ((Ext.refl _).alloc (.cells #[.int .u8 1, .int .i64 2, .int .i64 0] 23))).ext ((Ext.refl _).alloc (.cells #[.int .u8 4, .int .i64 3, .int .i64 0] 23))
  have bB := (Box.new (World.alloc w (.cells #[.int .u8 1, .int .i64 1, .int .i64 0] 23)) 23 #[.int .u8 1, .int .i64 2, .int .i64 0]).ext ((Ext.refl _).alloc (.cells #[.int .u8 4, .int .i64 3, .int .i64 0] 23))
  have bC := Box.new (World.alloc (World.alloc w (.cells #[.int .u8 1, .int .i64 1, .int .i64 0] 23)) (.cells #[.int .u8 1, .int .i64 2, .int .i64 0] 23)) 23 #[.int .u8 4, .int .i64 3, .int .i64 0]
  rw [World.size_alloc] at bB bC
  rw [World.size_alloc] at bC
  have h_a := Lib.hid exam30_a
  have h_b := Lib.hid exam30_b
  have h_c := Lib.hid exam30_c
  go_enter Tryd.func13, Tryd.ntmps13
  have bA_0 : World.cell? (World.alloc (World.alloc (World.alloc w (.cells #[.int .u8 1, .int .i64 1, .int .i64 0] 23)) (.cells #[.int .u8 1, .int .i64 2, .int .i64 0] 23)) (.cells #[.int .u8 4, .int .i64 3, .int .i64 0] 23)) ⟨w.heap.size, 0, none⟩ = some (.int .u8 1) := bA.cell 0
  have bA_1 : World.cell? (World.alloc (World.alloc (World.alloc w (.cells #[.int .u8 1, .int .i64 1, .int .i64 0] 23)) (.cells #[.int .u8 1, .int .i64 2, .int .i64 0] 23)) (.cells #[.int .u8 4, .int .i64 3, .int .i64 0] 23)) ⟨w.heap.size, 1, none⟩ = some (.int .i64 1) := bA.cell 1
  have bA_2 : World.cell? (World.alloc (World.alloc (World.alloc w (.cells #[.int .u8 1, .int .i64 1, .int .i64 0] 23)) (.cells #[.int .u8 1, .int .i64 2, .int .i64 0] 23)) (.cells #[.int .u8 4, .int .i64 3, .int .i64 0] 23)) ⟨w.heap.size, 2, none⟩ = some (.int .i64 0) := bA.cell 2
  have bA_l := bA.lt
  have bB_0 : World.cell? (World.alloc (World.alloc (World.alloc w (.cells #[.int .u8 1, .int .i64 1, .int .i64 0] 23)) (.cells #[.int .u8 1, .int .i64 2, .int .i64 0] 23)) (.cells #[.int .u8 4, .int .i64 3, .int .i64 0] 23)) ⟨w.heap.size + 1, 0, none⟩ = some (.int .u8 1) := bB.cell 0
  have bB_1 : World.cell? (World.alloc (World.alloc (World.alloc w (.cells #[.int .u8 1, .int .i64 1, .int .i64 0] 23)) (.cells #[.int .u8 1, .int .i64 2, .int .i64 0] 23)) (.cells #[.int .u8 4, .int .i64 3, .int .i64 0] 23)) ⟨w.heap.size + 1, 1, none⟩ = some (.int .i64 2) := bB.cell 1
  have bB_2 : World.cell? (World.alloc (World.alloc (World.alloc w (.cells #[.int .u8 1, .int .i64 1, .int .i64 0] 23)) (.cells #[.int .u8 1, .int .i64 2, .int .i64 0] 23)) (.cells #[.int .u8 4, .int .i64 3, .int .i64 0] 23)) ⟨w.heap.size + 1, 2, none⟩ = some (.int .i64 0) := bB.cell 2
  have bB_l := bB.lt
  have bC_0 : World.cell? (World.alloc (World.alloc (World.alloc w (.cells #[.int .u8 1, .int .i64 1, .int .i64 0] 23)) (.cells #[.int .u8 1, .int .i64 2, .int .i64 0] 23)) (.cells #[.int .u8 4, .int .i64 3, .int .i64 0] 23)) ⟨w.heap.size + 1 + 1, 0, none⟩ = some (.int .u8 4) := bC.cell 0
  have bC_1 : World.cell? (World.alloc (World.alloc (World.alloc w (.cells #[.int .u8 1, .int .i64 1, .int .i64 0] 23)) (.cells #[.int .u8 1, .int .i64 2, .int .i64 0] 23)) (.cells #[.int .u8 4, .int .i64 3, .int .i64 0] 23)) ⟨w.heap.size + 1 + 1, 1, none⟩ = some (.int .i64 3) := bC.cell 1
  have bC_2 : World.cell? (World.alloc (World.alloc (World.alloc w (.cells #[.int .u8 1, .int .i64 1, .int .i64 0] 23)) (.cells #[.int .u8 1, .int .i64 2, .int .i64 0] 23)) (.cells #[.int .u8 4, .int .i64 3, .int .i64 0] 23)) ⟨w.heap.size + 1 + 1, 2, none⟩ = some (.int .i64 0) := bC.cell 2
  have bC_l := bC.lt
  go_wp2_with fail
  clear bA_0 bA_1 bA_2 bA_l
  clear bB_0 bB_1 bB_2 bB_l
  clear bC_0 bC_1 bC_2 bC_l
  refine (law30_leaves (hP.ext (by repeat (first | exact Ext.refl _ | apply Ext.alloc | apply Ext.drew))) (k := 2) (by unfold u8B; decide) 1 2 (by (repeat (first | exact Its.nil _ | exact Its.lit _ _ _ _ _ (by simp) rfl (by simp [maxLen]) rfl | refine Its.ext ?_ (Ext.refl _).drew | refine Its.ext ?_ ((Ext.refl _).alloc _) | refine Its.ext ?_ (by assumption)))) (by (repeat (first | exact Its.nil _ | exact Its.lit _ _ _ _ _ (by simp) rfl (by simp [maxLen]) rfl | refine Its.ext ?_ (Ext.refl _).drew | refine Its.ext ?_ ((Ext.refl _).alloc _) | refine Its.ext ?_ (by assumption)))) (by (repeat (first | exact Its.nil _ | exact Its.lit _ _ _ _ _ (by simp) rfl (by simp [maxLen]) rfl | refine Its.ext ?_ (Ext.refl _).drew | refine Its.ext ?_ ((Ext.refl _).alloc _) | refine Its.ext ?_ (by assumption)))) h_a.out).mono ?_
  rintro e w1 ⟨rfl, hZ0⟩
  have hE0 : Ext (World.alloc (World.alloc (World.alloc w (.cells #[.int .u8 1, .int .i64 1, .int .i64 0] 23)) (.cells #[.int .u8 1, .int .i64 2, .int .i64 0] 23)) (.cells #[.int .u8 4, .int .i64 3, .int .i64 0] 23)) w1 := Ext.trans (by repeat (first | exact Ext.refl _ | apply Ext.alloc | apply Ext.drew)) hZ0
  replace hP := hP.ext hE0
  replace bA := bA.ext hE0
  replace bB := bB.ext hE0
  replace bC := bC.ext hE0
  have hF0 := Ext.trans (hF) hE0
  have bA_0 : World.cell? w1 ⟨w.heap.size, 0, none⟩ = some (.int .u8 1) := bA.cell 0
  have bA_1 : World.cell? w1 ⟨w.heap.size, 1, none⟩ = some (.int .i64 1) := bA.cell 1
  have bA_2 : World.cell? w1 ⟨w.heap.size, 2, none⟩ = some (.int .i64 0) := bA.cell 2
  have bA_l := bA.lt
  have bB_0 : World.cell? w1 ⟨w.heap.size + 1, 0, none⟩ = some (.int .u8 1) := bB.cell 0
  have bB_1 : World.cell? w1 ⟨w.heap.size + 1, 1, none⟩ = some (.int .i64 2) := bB.cell 1
  have bB_2 : World.cell? w1 ⟨w.heap.size + 1, 2, none⟩ = some (.int .i64 0) := bB.cell 2
  have bB_l := bB.lt
  have bC_0 : World.cell? w1 ⟨w.heap.size + 1 + 1, 0, none⟩ = some (.int .u8 4) := bC.cell 0
  have bC_1 : World.cell? w1 ⟨w.heap.size + 1 + 1, 1, none⟩ = some (.int .i64 3) := bC.cell 1
  have bC_2 : World.cell? w1 ⟨w.heap.size + 1 + 1, 2, none⟩ = some (.int .i64 0) := bC.cell 2
  have bC_l := bC.lt
  go_wp2_with fail
  clear bA_0 bA_1 bA_2 bA_l
  clear bB_0 bB_1 bB_2 bB_l
  clear bC_0 bC_1 bC_2 bC_l
  refine (law30_leaves (hP.ext (by repeat (first | exact Ext.refl _ | apply Ext.alloc | apply Ext.drew))) (k := 1) (by unfold u8B; decide) 2 3 (by (repeat (first | exact Its.nil _ | exact Its.lit _ _ _ _ _ (by simp) rfl (by simp [maxLen]) rfl | refine Its.ext ?_ (Ext.refl _).drew | refine Its.ext ?_ ((Ext.refl _).alloc _) | refine Its.ext ?_ (by assumption)))) (by (repeat (first | exact Its.nil _ | exact Its.lit _ _ _ _ _ (by simp) rfl (by simp [maxLen]) rfl | refine Its.ext ?_ (Ext.refl _).drew | refine Its.ext ?_ ((Ext.refl _).alloc _) | refine Its.ext ?_ (by assumption)))) (by (repeat (first | exact Its.nil _ | exact Its.lit _ _ _ _ _ (by simp) rfl (by simp [maxLen]) rfl | refine Its.ext ?_ (Ext.refl _).drew | refine Its.ext ?_ ((Ext.refl _).alloc _) | refine Its.ext ?_ (by assumption)))) h_b.out).mono ?_
  rintro e w2 ⟨rfl, hZ1⟩
  have hE1 : Ext w1 w2 := Ext.trans (by repeat (first | exact Ext.refl _ | apply Ext.alloc | apply Ext.drew)) hZ1
  replace hP := hP.ext hE1
  replace bA := bA.ext hE1
  replace bB := bB.ext hE1
  replace bC := bC.ext hE1
  have hF1 := Ext.trans (hF0) hE1
  have bA_0 : World.cell? w2 ⟨w.heap.size, 0, none⟩ = some (.int .u8 1) := bA.cell 0
  have bA_1 : World.cell? w2 ⟨w.heap.size, 1, none⟩ = some (.int .i64 1) := bA.cell 1
  have bA_2 : World.cell? w2 ⟨w.heap.size, 2, none⟩ = some (.int .i64 0) := bA.cell 2
  have bA_l := bA.lt
  have bB_0 : World.cell? w2 ⟨w.heap.size + 1, 0, none⟩ = some (.int .u8 1) := bB.cell 0
  have bB_1 : World.cell? w2 ⟨w.heap.size + 1, 1, none⟩ = some (.int .i64 2) := bB.cell 1
  have bB_2 : World.cell? w2 ⟨w.heap.size + 1, 2, none⟩ = some (.int .i64 0) := bB.cell 2
  have bB_l := bB.lt
  have bC_0 : World.cell? w2 ⟨w.heap.size + 1 + 1, 0, none⟩ = some (.int .u8 4) := bC.cell 0
  have bC_1 : World.cell? w2 ⟨w.heap.size + 1 + 1, 1, none⟩ = some (.int .i64 3) := bC.cell 1
  have bC_2 : World.cell? w2 ⟨w.heap.size + 1 + 1, 2, none⟩ = some (.int .i64 0) := bC.cell 2
  have bC_l := bC.lt
  go_wp2_with fail
  clear bA_0 bA_1 bA_2 bA_l
  clear bB_0 bB_1 bB_2 bB_l
  clear bC_0 bC_1 bC_2 bC_l
  refine (law30_leaves (hP.ext (by repeat (first | exact Ext.refl _ | apply Ext.alloc | apply Ext.drew))) (k := 3) (by unfold u8B; decide) 1 4 (by (repeat (first | exact Its.nil _ | exact Its.lit _ _ _ _ _ (by simp) rfl (by simp [maxLen]) rfl | refine Its.ext ?_ (Ext.refl _).drew | refine Its.ext ?_ ((Ext.refl _).alloc _) | refine Its.ext ?_ (by assumption)))) (by (repeat (first | exact Its.nil _ | exact Its.lit _ _ _ _ _ (by simp) rfl (by simp [maxLen]) rfl | refine Its.ext ?_ (Ext.refl _).drew | refine Its.ext ?_ ((Ext.refl _).alloc _) | refine Its.ext ?_ (by assumption)))) (by (repeat (first | exact Its.nil _ | exact Its.lit _ _ _ _ _ (by simp) rfl (by simp [maxLen]) rfl | refine Its.ext ?_ (Ext.refl _).drew | refine Its.ext ?_ ((Ext.refl _).alloc _) | refine Its.ext ?_ (by assumption)))) h_c.out).mono ?_
  rintro e w3 ⟨rfl, hZ2⟩
  have hE2 : Ext w2 w3 := Ext.trans (by repeat (first | exact Ext.refl _ | apply Ext.alloc | apply Ext.drew)) hZ2
  replace hP := hP.ext hE2
  replace bA := bA.ext hE2
  replace bB := bB.ext hE2
  replace bC := bC.ext hE2
  have hF2 := Ext.trans (hF1) hE2
  go_wp2
  go_ret
  exact ⟨rfl, hF2⟩

end Go.Proofs.YtkbocenpkdaogaaDoor
