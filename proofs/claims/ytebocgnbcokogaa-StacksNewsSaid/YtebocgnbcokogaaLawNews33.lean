/- The statement StacksNews: for all stacks and numbers the call returns true. No condition. -/
import Derived.Test.YtebocgnbcokogaaStkC
import Derived.Test.YtebocgnbcokogaaReadK
import Derived.Test.YtebocgnbcokogaaClose
namespace Go.Proofs.Ytebocgnbcokogaa
set_option maxRecDepth 100000
open Go.ChangeShapes Go.WideShapes Go.ChangeAt Go.RowKit

set_option maxRecDepth 100000 in
set_option maxHeartbeats 6400000 in
theorem stacksNews_walk {x : Stk} {s : Value} {w : World} (number size tag : Int) (hl : Sts w s x.cells) :
    Calls Try.prog 3 #[.agg #[.int .i64 x.num, s], .int .i64 number, .int .i64 size, .int .i64 tag] w fun e w' => e = .returned (.bool true) ∧ Ext w w' := by
  obtain ⟨num, l⟩ := x
  have hF := (Ext.refl w).alloc (.cells #[.int .i64 num, s] 24)
  have bM := Box.new w 24 #[.int .i64 num, s]
  have hL : Sts _ s l := hl.ext hF
  obtain ⟨a, cp, rfl, -⟩ := Sts.form hl
  clear hl
  dsimp only at *
  obtain ⟨⟨⟨an, al⟩, er⟩, hN⟩ : ∃ A, newK number size tag = A := ⟨_, rfl⟩
  obtain ⟨ke, hke⟩ : ∃ A, stkErr ⟨num, l⟩ = A := ⟨_, rfl⟩
  replace hN := Lib.hid hN
  replace hke := Lib.hid hke
  cases hg : greatK l
  · have hg' := Lib.hid hg
    clear hg
    go_enter Try.func3, Try.ntmps3
    go_wp2_with fail
    obtain ⟨w0, hw0⟩ : ∃ z, w.alloc (.cells #[.int .i64 num, .slice a l.length cp] 24) = z := ⟨_, rfl⟩
    rw [hw0] at hF bM hL ⊢
    clear hw0
    refine (ref33_Great hL).mono ?_
    rintro e w1 ⟨rfl, hE0⟩
    replace bM := bM.ext hE0
    replace hL := hL.ext hE0
    have hF0 := Ext.trans (hF) hE0
    rw [hg'.out]
    have bM_0 : World.cell? w1 ⟨w.heap.size, 0, none⟩ = some (.int .i64 num) := bM.cell 0
    have bM_1 : World.cell? w1 ⟨w.heap.size, 1, none⟩ = some (.slice a l.length cp) := bM.cell 1
    have bM_l := bM.lt
    go_wp2_with fail
    clear bM_0 bM_1 bM_l
    refine (stacks_New number size tag _).mono ?_
    rintro e w2 ⟨vha, vsha, rfl, oha, hE1⟩
    replace bM := bM.ext hE1
    replace hL := hL.ext hE1
    have hF1 := Ext.trans (hF0) hE1
    rw [hN.out] at oha
    rw [hN.out]
    have ha := oha.sts
    obtain ⟨aha, cha, rfl, -⟩ := ha.form
    clear oha
    dsimp only at ha ⊢
    have bM_0 : World.cell? w2 ⟨w.heap.size, 0, none⟩ = some (.int .i64 num) := bM.cell 0
    have bM_1 : World.cell? w2 ⟨w.heap.size, 1, none⟩ = some (.slice a l.length cp) := bM.cell 1
    have bM_l := bM.lt
    go_wp2_with fail
    clear bM_0 bM_1 bM_l
    have bA := Box.new w2 24 #[.int .i64 an, .slice aha al.length cha]
    have hx2 : Ext w2 (World.alloc w2 (.cells #[.int .i64 an, .slice aha al.length cha] 24)) := (Ext.refl _).alloc _
    obtain ⟨w2b, hw2⟩ : ∃ x, World.alloc w2 (.cells #[.int .i64 an, .slice aha al.length cha] 24) = x := ⟨_, rfl⟩
    rw [hw2] at bA hx2 ⊢
    clear hw2
    replace bM := bM.ext hx2
    replace hL := hL.ext hx2
    replace ha := ha.ext hx2
    have hF2 := Ext.trans (hF1) hx2
    refine (ref33_New number size tag _).mono ?_
    rintro e w4 ⟨vhb, vshb, rfl, ohb, hE3⟩
    replace bM := bM.ext hE3
    replace hL := hL.ext hE3
    replace ha := ha.ext hE3
    replace bA := bA.ext hE3
    have hF3 := Ext.trans (hF2) hE3
    rw [hN.out] at ohb
    rw [hN.out]
    have hb := ohb.sts
    obtain ⟨ahb, chb, rfl, -⟩ := hb.form
    clear ohb
    dsimp only at hb ⊢
    have bM_0 : World.cell? w4 ⟨w.heap.size, 0, none⟩ = some (.int .i64 num) := bM.cell 0
    have bM_1 : World.cell? w4 ⟨w.heap.size, 1, none⟩ = some (.slice a l.length cp) := bM.cell 1
    have bM_l := bM.lt
    have bA_0 : World.cell? w4 ⟨w2.heap.size, 0, none⟩ = some (.int .i64 an) := bA.cell 0
    have bA_1 : World.cell? w4 ⟨w2.heap.size, 1, none⟩ = some (.slice aha al.length cha) := bA.cell 1
    have bA_l := bA.lt
    go_wp2
    clear bM_0 bM_1 bM_l
    clear bA_0 bA_1 bA_l
    have bB := Box.new w4 24 #[.int .i64 an, .slice ahb al.length chb]
    have hx4 : Ext w4 (World.alloc w4 (.cells #[.int .i64 an, .slice ahb al.length chb] 24)) := (Ext.refl _).alloc _
    obtain ⟨w4b, hw4⟩ : ∃ x, World.alloc w4 (.cells #[.int .i64 an, .slice ahb al.length chb] 24) = x := ⟨_, rfl⟩
    rw [hw4] at bB hx4 ⊢
    clear hw4
    replace bM := bM.ext hx4
    replace hL := hL.ext hx4
    replace ha := ha.ext hx4
    replace bA := bA.ext hx4
    replace hb := hb.ext hx4
    have hF4 := Ext.trans (hF3) hx4
    have bM_0 : World.cell? w4b ⟨w.heap.size, 0, none⟩ = some (.int .i64 num) := bM.cell 0
    have bM_1 : World.cell? w4b ⟨w.heap.size, 1, none⟩ = some (.slice a l.length cp) := bM.cell 1
    have bM_l := bM.lt
    have bA_0 : World.cell? w4b ⟨w2.heap.size, 0, none⟩ = some (.int .i64 an) := bA.cell 0
    have bA_1 : World.cell? w4b ⟨w2.heap.size, 1, none⟩ = some (.slice aha al.length cha) := bA.cell 1
    have bA_l := bA.lt
    have bB_0 : World.cell? w4b ⟨w4.heap.size, 0, none⟩ = some (.int .i64 an) := bB.cell 0
    have bB_1 : World.cell? w4b ⟨w4.heap.size, 1, none⟩ = some (.slice ahb al.length chb) := bB.cell 1
    have bB_l := bB.lt
    have hSk : ∀ w' w'' : World, (w'.cell? ⟨w.heap.size, 0, none⟩ = some (.int .i64 num) ∧ w'.cell? ⟨w.heap.size, 1, none⟩ = some (.slice a l.length cp) ∧ w'.cell? ⟨w2.heap.size, 0, none⟩ = some (.int .i64 an) ∧ w'.cell? ⟨w2.heap.size, 1, none⟩ = some (.slice aha al.length cha) ∧ w'.cell? ⟨w4.heap.size, 0, none⟩ = some (.int .i64 an) ∧ w'.cell? ⟨w4.heap.size, 1, none⟩ = some (.slice ahb al.length chb) ∧ Ext w4b w') → Ext w' w'' → (w''.cell? ⟨w.heap.size, 0, none⟩ = some (.int .i64 num) ∧ w''.cell? ⟨w.heap.size, 1, none⟩ = some (.slice a l.length cp) ∧ w''.cell? ⟨w2.heap.size, 0, none⟩ = some (.int .i64 an) ∧ w''.cell? ⟨w2.heap.size, 1, none⟩ = some (.slice aha al.length cha) ∧ w''.cell? ⟨w4.heap.size, 0, none⟩ = some (.int .i64 an) ∧ w''.cell? ⟨w4.heap.size, 1, none⟩ = some (.slice ahb al.length chb) ∧ Ext w4b w'') := by
      rintro w' w'' ⟨k0, k1, k2, k3, k4, k5, kE⟩ h
      exact ⟨h.cell k0, h.cell k1, h.cell k2, h.cell k3, h.cell k4, h.cell k5, Ext.trans kE h⟩
    go_region_held3 (fun w' => (w'.cell? ⟨w.heap.size, 0, none⟩ = some (.int .i64 num) ∧ w'.cell? ⟨w.heap.size, 1, none⟩ = some (.slice a l.length cp) ∧ w'.cell? ⟨w2.heap.size, 0, none⟩ = some (.int .i64 an) ∧ w'.cell? ⟨w2.heap.size, 1, none⟩ = some (.slice aha al.length cha) ∧ w'.cell? ⟨w4.heap.size, 0, none⟩ = some (.int .i64 an) ∧ w'.cell? ⟨w4.heap.size, 1, none⟩ = some (.slice ahb al.length chb) ∧ Ext w4b w')) (first | assumption | exact ⟨bM_0, bM_1, bA_0, bA_1, bB_0, bB_1, (Ext.refl _).drew⟩ | (refine hSk _ _ (by assumption) ?_; first | assumption | exact (Ext.refl _).alloc _ | exact ((Ext.refl _).alloc _).drew)) (first | (go_at_call 16; refine (ref33_Same (ha.ext ?_) (hb.ext ?_)).mono ?_; (exact And.right (And.right (And.right (And.right (And.right (And.right (by assumption))))))); (exact And.right (And.right (And.right (And.right (And.right (And.right (by assumption))))))); rintro e wr0 ⟨rfl, hR0⟩) | (go_at_call 17; refine (stacks_Check (hL.ext ?_)).mono ?_; (exact And.right (And.right (And.right (And.right (And.right (And.right (by assumption))))))); rintro e wr1 ⟨rfl, hR1⟩; rw [hke.out]) | (go_at_call 18; refine (ref33_Check (hL.ext ?_)).mono ?_; (exact And.right (And.right (And.right (And.right (And.right (And.right (by assumption))))))); rintro e wr2 ⟨rfl, hR2⟩; rw [hke.out]))
    all_goals
      have hRR := And.right (And.right (And.right (And.right (And.right (And.right ((by assumption : (World.cell? _ ⟨w.heap.size, 0, none⟩ = some (.int .i64 num) ∧ World.cell? _ ⟨w.heap.size, 1, none⟩ = some (.slice a l.length cp) ∧ World.cell? _ ⟨w2.heap.size, 0, none⟩ = some (.int .i64 an) ∧ World.cell? _ ⟨w2.heap.size, 1, none⟩ = some (.slice aha al.length cha) ∧ World.cell? _ ⟨w4.heap.size, 0, none⟩ = some (.int .i64 an) ∧ World.cell? _ ⟨w4.heap.size, 1, none⟩ = some (.slice ahb al.length chb) ∧ Ext w4b _))))))))
      go_wp2
      go_ret
      exact ⟨rfl, hF4.trans hRR⟩

  · have hg' := Lib.hid hg
    clear hg
    go_enter Try.func3, Try.ntmps3
    go_wp2_with fail
    refine (ref33_Great hL).mono ?_
    rintro e w1 ⟨rfl, hE1⟩
    rw [hg'.out]
    go_wp2
    go_ret
    exact ⟨rfl, hF.trans hE1⟩

set_option maxRecDepth 100000 in
theorem stacksNews_lifted (os : Os) (started : os.Started) (H : Type) (enc : TypeId × Value → H) :
    ReturnsInHanded {} Try.checked os 3 .any (Rows.stacksNewsSpec.pre6 enc Try.prog Try.f3 Rows.stacksNewsRow.domain false) (Rows.stacksNewsSpec.post enc Try.prog Try.f3 false true false false) := by
  refine returnsInHanded_of_change (C := Try.checked) Tryown started (by kernel_rfl) Try.func3
    (ChangeSpec.witness6 (enc := enc) (C := Try.checked) false ⟨#[], #[.agg #[.int .i64 0, .slice none 0 0], .int .i64 0, .int .i64 0, .int .i64 0], []⟩ 8 (by kernel_rfl) (by kernel_rfl) (by kernel_rfl) (by kernel_rfl)) ?_
  intro W base args ds gs before hval0 hW _ _
  have hval : ∀ (j : Nat) t v, Try.f3.params[j]? = some t → args[j]? = some v → Value.okWide Try.prog W .any base t v := hval0
  have hW' := hW
  obtain ⟨p, q, hA0, hV, rfl, hfz, hnd⟩ := hW
  have hA : DataW.TrodAll enc Try.prog W 0 (fun _ => true) true Try.f3.params.toList args.toList ds p := hA0
  rw [Try.params3] at hA hval
  obtain ⟨v0, vs0, d0, ds0, p0, q0, hargs, rfl, rfl, h0, r0⟩ := trodAll_cons hA
  obtain ⟨v1, vs1, d1, ds1, p1, q1, rfl, rfl, rfl, h1, r1⟩ := trodAll_cons r0
  obtain ⟨v2, vs2, d2, ds2, p2, q2, rfl, rfl, rfl, h2, r2⟩ := trodAll_cons r1
  obtain ⟨v3, vs3, d3, ds3, p3, q3, rfl, rfl, rfl, h3, r3⟩ := trodAll_cons r2
  obtain ⟨rfl, rfl, rfl⟩ := trodAll_nil r3
  obtain rfl : args = #[v0, v1, v2, v3] := by cases args; simp_all
  obtain ⟨x0, u0, rfl, k0, wf0⟩ := open_stacks (hval 0 24 v0 rfl rfl) h0
  obtain ⟨x1, rfl, rfl, rfl, wf1⟩ := open_int Try.underlying3 (hval 1 3 v1 rfl rfl) h1
  obtain ⟨x2, rfl, rfl, rfl, wf2⟩ := open_int Try.underlying3 (hval 2 3 v2 rfl rfl) h2
  obtain ⟨x3, rfl, rfl, rfl, wf3⟩ := open_int Try.underlying3 (hval 3 3 v3 rfl rfl) h3
  refine (stacksNews_walk x1 x2 x3 k0).mono fun e W' ⟨he, hb⟩ => ?_
  subst he
  exact ⟨_, rfl, post_law TrylaidOut (tb := 4) rfl Try.underlying4 (by kernel_rfl) rfl (fun ds hd => match ds, hd with | [a0, a1, a2, a3], _ => rfl) hW' hb⟩

theorem stacksNews_holds : Rows.StacksNewsSaid :=
  OpenClaim.holds_of_wide 3 Try.f3 rfl rfl rfl rfl rfl rfl rfl ⟨rfl, rfl, rfl, rfl, rfl⟩ rfl rfl rfl rfl rfl (by kernel_rfl) Try.func3 (by kernel_rfl)
    (of_decide_eq_true (by kernel_rfl)) (by unfold Func.isWrapper; first | (rw [if_pos (by decide +kernel)]; kernel_rfl) | (rw [if_neg (by decide +kernel)]; exact ⟨rfl, rfl⟩))
    (fun os started H enc _ => stacksNews_lifted os started H enc)

end Go.Proofs.Ytebocgnbcokogaa
