/- The statement DeallocTells: for all stacks and calls the call returns true. No condition. (printed by gen/tells34.py) -/
import Derived.Test.YtebocgnbcokogaaDeaC
import Derived.Test.YtebocgnbcokogaaReadK
import Derived.Test.YtebocgnbcokogaaReadI
import Derived.Test.YtebocgnbcokogaaClose
namespace Go.Proofs.Ytebocgnbcokogaa
set_option maxRecDepth 100000
open Go.ChangeShapes Go.WideShapes Go.ChangeAt Go.RowKit

theorem greatK_small {l : List (List Item)} (h : greatK l = false) : l.length ≤ 1000000 ∧ ∀ x ∈ l, x.length ≤ 1000000 := by
  unfold greatK at h
  rw [Bool.or_eq_false_iff, decide_eq_false_iff_not] at h
  refine ⟨by omega, fun x hx => ?_⟩
  have := List.any_eq_false.1 h.1 x (by rw [List.take_of_length_le (by omega)]; exact hx)
  simp [wideS] at this
  omega

set_option maxRecDepth 100000 in
set_option maxHeartbeats 6400000 in
theorem deallocTells_walk {x : Stk} {run : List Int} {s v : Value} {w : World} (hl : Sts w s x.cells) (hr : Nts w v run) :
    Calls Try.prog 8 #[.agg #[.int .i64 x.num, s], v] w fun e w' => e = .returned (.bool true) ∧ Ext w w' := by
  obtain ⟨num, l⟩ := x
  have hF := (Ext.refl w).alloc (.cells #[.int .i64 num, s] 24)
  have bM := Box.new w 24 #[.int .i64 num, s]
  have hL : Sts _ s l := hl.ext hF
  have hR : Nts _ v run := hr.ext hF
  obtain ⟨a, cp, rfl, -⟩ := Sts.form hl
  obtain ⟨a2, cp2, rfl, -⟩ := hr.form
  clear hl hr
  dsimp only at *
  obtain ⟨⟨q1, q2⟩, hq⟩ : ∃ A, endR34 ⟨num, l⟩ run = A := ⟨_, rfl⟩
  obtain ⟨⟨p1, p2⟩, hp⟩ : ∃ A, protR ⟨num, l⟩ run = A := ⟨_, rfl⟩
  replace hq := Lib.hid hq
  replace hp := Lib.hid hp
  cases hg : greatK l
  · have hsm := Lib.hid (greatK_small hg)
    have hg' := Lib.hid hg
    clear hg
    rcases Nat.lt_or_ge 50 run.length with hlen | hlen
    · have hlt : decide (50 < run.length) = true := decide_eq_true hlen
      have hlt' : decide ((50 : Int) < (run.length : Int)) = true := decide_eq_true (by omega)
      go_enter Try.func8, Try.ntmps8
      go_wp2_with fail
      refine (ref33_Great hL).mono ?_
      rintro e w1 ⟨rfl, hE1⟩
      rw [hg'.out]
      go_wp2
      go_ret
      exact ⟨rfl, hF.trans hE1⟩
    have hlt : decide (50 < run.length) = false := decide_eq_false (by omega)
    have hlt' : decide ((50 : Int) < (run.length : Int)) = false := decide_eq_false (by omega)
    go_enter Try.func8, Try.ntmps8
    go_wp2_with fail
    obtain ⟨w0, hw0⟩ : ∃ z, w.alloc (.cells #[.int .i64 num, .slice a l.length cp] 24) = z := ⟨_, rfl⟩
    rw [hw0] at hF bM hL hR ⊢
    clear hw0
    refine (ref33_Great hL).mono ?_
    rintro e w1 ⟨rfl, hE0⟩
    replace bM := bM.ext hE0
    replace hL := hL.ext hE0
    replace hR := hR.ext hE0
    have hF0 := Ext.trans (hF) hE0
    rw [hg'.out]
    have bM_0 : World.cell? w1 ⟨w.heap.size, 0, none⟩ = some (.int .i64 num) := bM.cell 0
    have bM_1 : World.cell? w1 ⟨w.heap.size, 1, none⟩ = some (.slice a l.length cp) := bM.cell 1
    have bM_l := bM.lt
    go_wp2_with fail
    clear bM_0 bM_1 bM_l
    refine (ref33_Twin hL hsm.out).mono ?_
    rintro e w2 ⟨vh, vsh, rfl, oh, hE1⟩
    replace bM := bM.ext hE1
    replace hL := hL.ext hE1
    replace hR := hR.ext hE1
    have hF1 := Ext.trans (hF0) hE1
    have hH : Sts _ _ l := oh.sts
    obtain ⟨ah, ch, rfl, -⟩ := hH.form
    clear oh
    dsimp only at hH ⊢
    have bM_0 : World.cell? w2 ⟨w.heap.size, 0, none⟩ = some (.int .i64 num) := bM.cell 0
    have bM_1 : World.cell? w2 ⟨w.heap.size, 1, none⟩ = some (.slice a l.length cp) := bM.cell 1
    have bM_l := bM.lt
    go_wp2_with fail
    clear bM_0 bM_1 bM_l
    have bH := Box.new w2 24 #[.int .i64 num, .slice ah l.length ch]
    have hx2 : Ext w2 (World.alloc w2 (.cells #[.int .i64 num, .slice ah l.length ch] 24)) := (Ext.refl _).alloc _
    obtain ⟨w2b, hw2⟩ : ∃ x, World.alloc w2 (.cells #[.int .i64 num, .slice ah l.length ch] 24) = x := ⟨_, rfl⟩
    rw [hw2] at bH hx2 ⊢
    clear hw2
    replace bM := bM.ext hx2
    replace hL := hL.ext hx2
    replace hR := hR.ext hx2
    replace hH := hH.ext hx2
    have hF2 := Ext.trans (hF1) hx2
    refine (dealloc_End hL hR).mono ?_
    rintro e w4 ⟨rfl, hE3⟩
    replace bM := bM.ext hE3
    replace hL := hL.ext hE3
    replace hR := hR.ext hE3
    replace hH := hH.ext hE3
    replace bH := bH.ext hE3
    have hF3 := Ext.trans (hF2) hE3
    rw [hq.out]
    have bM_0 : World.cell? w4 ⟨w.heap.size, 0, none⟩ = some (.int .i64 num) := bM.cell 0
    have bM_1 : World.cell? w4 ⟨w.heap.size, 1, none⟩ = some (.slice a l.length cp) := bM.cell 1
    have bM_l := bM.lt
    have bH_0 : World.cell? w4 ⟨w2.heap.size, 0, none⟩ = some (.int .i64 num) := bH.cell 0
    have bH_1 : World.cell? w4 ⟨w2.heap.size, 1, none⟩ = some (.slice ah l.length ch) := bH.cell 1
    have bH_l := bH.lt
    go_wp2_with fail
    clear bM_0 bM_1 bM_l
    clear bH_0 bH_1 bH_l
    refine (ref34_End hH hR).mono ?_
    rintro e w5 ⟨rfl, hE4⟩
    replace bM := bM.ext hE4
    replace hL := hL.ext hE4
    replace hR := hR.ext hE4
    replace hH := hH.ext hE4
    replace bH := bH.ext hE4
    have hF4 := Ext.trans (hF3) hE4
    rw [hq.out]
    have bM_0 : World.cell? w5 ⟨w.heap.size, 0, none⟩ = some (.int .i64 num) := bM.cell 0
    have bM_1 : World.cell? w5 ⟨w.heap.size, 1, none⟩ = some (.slice a l.length cp) := bM.cell 1
    have bM_l := bM.lt
    have bH_0 : World.cell? w5 ⟨w2.heap.size, 0, none⟩ = some (.int .i64 num) := bH.cell 0
    have bH_1 : World.cell? w5 ⟨w2.heap.size, 1, none⟩ = some (.slice ah l.length ch) := bH.cell 1
    have bH_l := bH.lt
    go_wp2_with fail
    clear bM_0 bM_1 bM_l
    clear bH_0 bH_1 bH_l
    refine (dealloc_Protects hL hR).mono ?_
    rintro e w6 ⟨vha, rfl, oha, hE5⟩
    replace bM := bM.ext hE5
    replace hL := hL.ext hE5
    replace hR := hR.ext hE5
    replace hH := hH.ext hE5
    replace bH := bH.ext hE5
    have hF5 := Ext.trans (hF4) hE5
    rw [hp.out] at oha ⊢
    have ha : Its _ _ p1 := (OwnI.its oha)
    obtain ⟨aha, cha, rfl, -⟩ := ha.form
    clear oha
    dsimp only at ha ⊢
    have bM_0 : World.cell? w6 ⟨w.heap.size, 0, none⟩ = some (.int .i64 num) := bM.cell 0
    have bM_1 : World.cell? w6 ⟨w.heap.size, 1, none⟩ = some (.slice a l.length cp) := bM.cell 1
    have bM_l := bM.lt
    have bH_0 : World.cell? w6 ⟨w2.heap.size, 0, none⟩ = some (.int .i64 num) := bH.cell 0
    have bH_1 : World.cell? w6 ⟨w2.heap.size, 1, none⟩ = some (.slice ah l.length ch) := bH.cell 1
    have bH_l := bH.lt
    go_wp2_with fail
    clear bM_0 bM_1 bM_l
    clear bH_0 bH_1 bH_l
    refine (ref34_Protects hH hR).mono ?_
    rintro e w7 ⟨vhb, rfl, ohb, hE6⟩
    replace bM := bM.ext hE6
    replace hL := hL.ext hE6
    replace hR := hR.ext hE6
    replace hH := hH.ext hE6
    replace bH := bH.ext hE6
    replace ha := ha.ext hE6
    have hF6 := Ext.trans (hF5) hE6
    rw [hp.out] at ohb ⊢
    have hb : Its _ _ p1 := (OwnI.its ohb)
    obtain ⟨ahb, chb, rfl, -⟩ := hb.form
    clear ohb
    dsimp only at hb ⊢
    have bM_0 : World.cell? w7 ⟨w.heap.size, 0, none⟩ = some (.int .i64 num) := bM.cell 0
    have bM_1 : World.cell? w7 ⟨w.heap.size, 1, none⟩ = some (.slice a l.length cp) := bM.cell 1
    have bM_l := bM.lt
    have bH_0 : World.cell? w7 ⟨w2.heap.size, 0, none⟩ = some (.int .i64 num) := bH.cell 0
    have bH_1 : World.cell? w7 ⟨w2.heap.size, 1, none⟩ = some (.slice ah l.length ch) := bH.cell 1
    have bH_l := bH.lt
    go_wp2_with fail
    clear bM_0 bM_1 bM_l
    clear bH_0 bH_1 bH_l
    refine (ref28_Same_yes ha hb).mono ?_
    rintro e w8 ⟨rfl, hE7⟩
    replace bM := bM.ext hE7
    replace hL := hL.ext hE7
    replace hR := hR.ext hE7
    replace hH := hH.ext hE7
    replace bH := bH.ext hE7
    replace ha := ha.ext hE7
    replace hb := hb.ext hE7
    have hF7 := Ext.trans (hF6) hE7
    have bM_0 : World.cell? w8 ⟨w.heap.size, 0, none⟩ = some (.int .i64 num) := bM.cell 0
    have bM_1 : World.cell? w8 ⟨w.heap.size, 1, none⟩ = some (.slice a l.length cp) := bM.cell 1
    have bM_l := bM.lt
    have bH_0 : World.cell? w8 ⟨w2.heap.size, 0, none⟩ = some (.int .i64 num) := bH.cell 0
    have bH_1 : World.cell? w8 ⟨w2.heap.size, 1, none⟩ = some (.slice ah l.length ch) := bH.cell 1
    have bH_l := bH.lt
    go_wp2_with fail
    clear bM_0 bM_1 bM_l
    clear bH_0 bH_1 bH_l
    refine (ref33_Same hL hH).mono ?_
    rintro e w9 ⟨rfl, hE8⟩
    replace bM := bM.ext hE8
    replace hL := hL.ext hE8
    replace hR := hR.ext hE8
    replace hH := hH.ext hE8
    replace bH := bH.ext hE8
    replace ha := ha.ext hE8
    replace hb := hb.ext hE8
    have hF8 := Ext.trans (hF7) hE8
    skip
    go_wp2
    go_ret
    exact ⟨rfl, hF8⟩

  · have hg' := Lib.hid hg
    clear hg
    go_enter Try.func8, Try.ntmps8
    go_wp2_with fail
    refine (ref33_Great hL).mono ?_
    rintro e w1 ⟨rfl, hE1⟩
    rw [hg'.out]
    go_wp2
    go_ret
    exact ⟨rfl, hF.trans hE1⟩

set_option maxRecDepth 100000 in
theorem deallocTells_lifted (os : Os) (started : os.Started) (H : Type) (enc : TypeId × Value → H) :
    ReturnsInHanded {} Try.checked os 8 .any (Rows.deallocTellsSpec.pre6 enc Try.prog Try.f8 Rows.deallocTellsRow.domain false) (Rows.deallocTellsSpec.post enc Try.prog Try.f8 false true false false) := by
  refine returnsInHanded_of_change (C := Try.checked) Tryown started (by kernel_rfl) Try.func8
    (ChangeSpec.witness6 (enc := enc) (C := Try.checked) false ⟨#[], #[.agg #[.int .i64 0, .slice none 0 0], .slice none 0 0], []⟩ 8 (by kernel_rfl) (by kernel_rfl) (by kernel_rfl) (by kernel_rfl)) ?_
  intro W base args ds gs before hval0 hW _ _
  have hval : ∀ (j : Nat) t v, Try.f8.params[j]? = some t → args[j]? = some v → Value.okWide Try.prog W .any base t v := hval0
  have hW' := hW
  obtain ⟨p, q, hA0, hV, rfl, hfz, hnd⟩ := hW
  have hA : DataW.TrodAll enc Try.prog W 0 (fun _ => true) true Try.f8.params.toList args.toList ds p := hA0
  rw [Try.params8] at hA hval
  obtain ⟨v0, vs0, d0, ds0, p0, q0, hargs, rfl, rfl, h0, r0⟩ := trodAll_cons hA
  obtain ⟨v1, vs1, d1, ds1, p1, q1, rfl, rfl, rfl, h1, r1⟩ := trodAll_cons r0
  obtain ⟨rfl, rfl, rfl⟩ := trodAll_nil r1
  obtain rfl : args = #[v0, v1] := by cases args; simp_all
  obtain ⟨x0, u0, rfl, k0, wf0⟩ := open_stacks (hval 0 24 v0 rfl rfl) h0
  obtain ⟨x1, k1, wf1⟩ := open_ints' Try.underlying52 (hval 1 52 v1 rfl rfl) h1
  refine (deallocTells_walk k0 k1).mono fun e W' ⟨he, hb⟩ => ?_
  subst he
  exact ⟨_, rfl, post_law TrylaidOut (tb := 4) rfl Try.underlying4 (by kernel_rfl) rfl (fun ds hd => match ds, hd with | [a0, a1], _ => rfl) hW' hb⟩

theorem deallocTells_holds : Rows.DeallocTellsSaid :=
  OpenClaim.holds_of_wide 8 Try.f8 rfl rfl rfl rfl rfl rfl rfl ⟨rfl, rfl, rfl, rfl, rfl⟩ rfl rfl rfl rfl rfl (by kernel_rfl) Try.func8 (by kernel_rfl)
    (of_decide_eq_true (by kernel_rfl)) (by unfold Func.isWrapper; first | (rw [if_pos (by decide +kernel)]; kernel_rfl) | (rw [if_neg (by decide +kernel)]; exact ⟨rfl, rfl⟩))
    (fun os started H enc _ => deallocTells_lifted os started H enc)

end Go.Proofs.Ytebocgnbcokogaa
