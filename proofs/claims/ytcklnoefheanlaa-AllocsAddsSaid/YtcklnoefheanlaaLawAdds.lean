/- The statement AllocsAdds: for every memory and size the call returns true. No condition. -/
import Derived.Test.YtcklnoefheanlaaCelWD
import Derived.Test.YtcklnoefheanlaaReadM
import Derived.Test.YtcklnoefheanlaaClose
namespace Go.Proofs.Ytcklnoefheanlaa
open Go.ChangeShapes Go.WideShapes Go.ChangeAt Go.RowKit

theorem small_of_great {l : List Alloc} (h : greatM l = false) : small l := by
  rw [greatM_eq, Bool.or_eq_false_iff] at h
  obtain ⟨h1, h2⟩ := h
  have h3 : l.length ≤ 410 := by simpa using h2
  rw [List.take_of_length_le (by omega)] at h1
  refine ⟨by omega, fun a ha => ?_⟩
  have := List.any_eq_false.1 h1 a ha
  simp [wide] at this
  omega

set_option maxRecDepth 100000 in
set_option maxHeartbeats 6400000 in
theorem allocsAdds_walk {m : Mem} {s : Value} {w : World} (size : Int) (hl : Als w s m.al) (hn : i64B m.next) :
    Calls Try.prog 4 #[.agg #[s, .int .i64 m.next], .int .i64 size] w fun e w' => e = .returned (.bool true) ∧ Ext w w' := by
  have hF := (Ext.refl w).alloc (.cells #[s, .int .i64 m.next] 31)
  have bM := Box.new w 31 #[s, .int .i64 m.next]
  have hL := hl.ext hF
  obtain ⟨a, cp, rfl, -⟩ := hl.form
  clear hl
  obtain ⟨A, hA⟩ : ∃ A, addR m size = A := ⟨_, rfl⟩
  obtain ⟨AM, an, ae⟩ := A
  cases hg : greatM m.al
  · have hsm := small_of_great hg
    have hg' := Lib.hid hg
    have hA' := Lib.hid hA
    clear hg hA
    go_enter Try.func4, Try.ntmps4
    go_wp2_with fail
    obtain ⟨w0, hw0⟩ : ∃ x, w.alloc (.cells #[.slice a m.al.length cp, .int .i64 m.next] 31) = x := ⟨_, rfl⟩
    rw [hw0] at hF bM hL ⊢
    clear hw0
    refine (ref26_Great hL).mono ?_
    rintro e w1 ⟨rfl, hE0⟩
    replace bM := bM.ext hE0
    replace hL := hL.ext hE0
    have hF0 := Ext.trans (hF) hE0
    rw [hg'.out]
    have bM_0 : World.cell? w1 ⟨w.heap.size, 0, none⟩ = some (.slice a m.al.length cp) := bM.cell 0
    have bM_1 : World.cell? w1 ⟨w.heap.size, 1, none⟩ = some (.int .i64 m.next) := bM.cell 1
    have bM_l := bM.lt
    go_wp2_with fail
    clear bM_0 bM_1 bM_l
    refine (ref26_Twin hL hsm).mono ?_
    rintro e w2 ⟨vh, vs, rfl, hOM, hE1⟩
    replace bM := bM.ext hE1
    replace hL := hL.ext hE1
    have hF1 := Ext.trans (hF0) hE1
    have hT := OM.read hOM
    obtain ⟨ah, ch, rfl, -⟩ := hT.form
    clear hOM
    have bM_0 : World.cell? w2 ⟨w.heap.size, 0, none⟩ = some (.slice a m.al.length cp) := bM.cell 0
    have bM_1 : World.cell? w2 ⟨w.heap.size, 1, none⟩ = some (.int .i64 m.next) := bM.cell 1
    have bM_l := bM.lt
    go_wp2_with fail
    clear bM_0 bM_1 bM_l
    have bH := Box.new w2 31 #[.slice ah m.al.length ch, .int .i64 m.next]
    have hx2 : Ext w2 (World.alloc w2 (.cells #[.slice ah m.al.length ch, .int .i64 m.next] 31)) := (Ext.refl _).alloc _
    obtain ⟨w2b, hw2⟩ : ∃ x, World.alloc w2 (.cells #[.slice ah m.al.length ch, .int .i64 m.next] 31) = x := ⟨_, rfl⟩
    rw [hw2] at bH hx2 ⊢
    clear hw2
    replace bM := bM.ext hx2
    replace hL := hL.ext hx2
    replace hT := hT.ext hx2
    have hF2 := Ext.trans (hF1) hx2
    refine (allocs_Add size hL hn).mono ?_
    rintro e w4 ⟨va, rfl, hfa, hE3⟩
    replace bM := bM.ext hE3
    replace hL := hL.ext hE3
    replace hT := hT.ext hE3
    replace bH := bH.ext hE3
    have hF3 := Ext.trans (hF2) hE3
    rw [hA'.out] at hfa
    rw [hA'.out]
    obtain ⟨va', rfl, hAa⟩ := hfa.read
    obtain ⟨aa, ca, rfl, -⟩ := hAa.form
    clear hfa
    have bM_0 : World.cell? w4 ⟨w.heap.size, 0, none⟩ = some (.slice a m.al.length cp) := bM.cell 0
    have bM_1 : World.cell? w4 ⟨w.heap.size, 1, none⟩ = some (.int .i64 m.next) := bM.cell 1
    have bM_l := bM.lt
    have bH_0 : World.cell? w4 ⟨w2.heap.size, 0, none⟩ = some (.slice ah m.al.length ch) := bH.cell 0
    have bH_1 : World.cell? w4 ⟨w2.heap.size, 1, none⟩ = some (.int .i64 m.next) := bH.cell 1
    have bH_l := bH.lt
    go_wp2_with fail
    clear bM_0 bM_1 bM_l
    clear bH_0 bH_1 bH_l
    have bA := Box.new w4 31 #[.slice aa AM.al.length ca, .int .i64 AM.next]
    have hx4 : Ext w4 (World.alloc w4 (.cells #[.slice aa AM.al.length ca, .int .i64 AM.next] 31)) := (Ext.refl _).alloc _
    obtain ⟨w4b, hw4⟩ : ∃ x, World.alloc w4 (.cells #[.slice aa AM.al.length ca, .int .i64 AM.next] 31) = x := ⟨_, rfl⟩
    rw [hw4] at bA hx4 ⊢
    clear hw4
    replace bM := bM.ext hx4
    replace hL := hL.ext hx4
    replace hT := hT.ext hx4
    replace bH := bH.ext hx4
    replace hAa := hAa.ext hx4
    have hF4 := Ext.trans (hF3) hx4
    refine (ref26_Add size hT hn).mono ?_
    rintro e w6 ⟨vb, rfl, hfb, hE5⟩
    replace bM := bM.ext hE5
    replace hL := hL.ext hE5
    replace hT := hT.ext hE5
    replace bH := bH.ext hE5
    replace hAa := hAa.ext hE5
    replace bA := bA.ext hE5
    have hF5 := Ext.trans (hF4) hE5
    rw [hA'.out] at hfb
    rw [hA'.out]
    obtain ⟨vb', rfl, hAb⟩ := hfb.read
    obtain ⟨ab, cb, rfl, -⟩ := hAb.form
    clear hfb
    have bM_0 : World.cell? w6 ⟨w.heap.size, 0, none⟩ = some (.slice a m.al.length cp) := bM.cell 0
    have bM_1 : World.cell? w6 ⟨w.heap.size, 1, none⟩ = some (.int .i64 m.next) := bM.cell 1
    have bM_l := bM.lt
    have bH_0 : World.cell? w6 ⟨w2.heap.size, 0, none⟩ = some (.slice ah m.al.length ch) := bH.cell 0
    have bH_1 : World.cell? w6 ⟨w2.heap.size, 1, none⟩ = some (.int .i64 m.next) := bH.cell 1
    have bH_l := bH.lt
    have bA_0 : World.cell? w6 ⟨w4.heap.size, 0, none⟩ = some (.slice aa AM.al.length ca) := bA.cell 0
    have bA_1 : World.cell? w6 ⟨w4.heap.size, 1, none⟩ = some (.int .i64 AM.next) := bA.cell 1
    have bA_l := bA.lt
    go_wp2
    clear bM_0 bM_1 bM_l
    clear bH_0 bH_1 bH_l
    clear bA_0 bA_1 bA_l
    have bB := Box.new w6 31 #[.slice ab AM.al.length cb, .int .i64 AM.next]
    have hx6 : Ext w6 (World.alloc w6 (.cells #[.slice ab AM.al.length cb, .int .i64 AM.next] 31)) := (Ext.refl _).alloc _
    obtain ⟨w6b, hw6⟩ : ∃ x, World.alloc w6 (.cells #[.slice ab AM.al.length cb, .int .i64 AM.next] 31) = x := ⟨_, rfl⟩
    rw [hw6] at bB hx6 ⊢
    clear hw6
    replace bM := bM.ext hx6
    replace hL := hL.ext hx6
    replace hT := hT.ext hx6
    replace bH := bH.ext hx6
    replace hAa := hAa.ext hx6
    replace bA := bA.ext hx6
    replace hAb := hAb.ext hx6
    have hF6 := Ext.trans (hF5) hx6
    have bM_0 : World.cell? w6b ⟨w.heap.size, 0, none⟩ = some (.slice a m.al.length cp) := bM.cell 0
    have bM_1 : World.cell? w6b ⟨w.heap.size, 1, none⟩ = some (.int .i64 m.next) := bM.cell 1
    have bM_l := bM.lt
    have bH_0 : World.cell? w6b ⟨w2.heap.size, 0, none⟩ = some (.slice ah m.al.length ch) := bH.cell 0
    have bH_1 : World.cell? w6b ⟨w2.heap.size, 1, none⟩ = some (.int .i64 m.next) := bH.cell 1
    have bH_l := bH.lt
    have bA_0 : World.cell? w6b ⟨w4.heap.size, 0, none⟩ = some (.slice aa AM.al.length ca) := bA.cell 0
    have bA_1 : World.cell? w6b ⟨w4.heap.size, 1, none⟩ = some (.int .i64 AM.next) := bA.cell 1
    have bA_l := bA.lt
    have bB_0 : World.cell? w6b ⟨w6.heap.size, 0, none⟩ = some (.slice ab AM.al.length cb) := bB.cell 0
    have bB_1 : World.cell? w6b ⟨w6.heap.size, 1, none⟩ = some (.int .i64 AM.next) := bB.cell 1
    have bB_l := bB.lt
    have hSk : ∀ w' w'' : World, (w'.cell? ⟨w.heap.size, 0, none⟩ = some (.slice a m.al.length cp) ∧ w'.cell? ⟨w.heap.size, 1, none⟩ = some (.int .i64 m.next) ∧ w'.cell? ⟨w2.heap.size, 0, none⟩ = some (.slice ah m.al.length ch) ∧ w'.cell? ⟨w2.heap.size, 1, none⟩ = some (.int .i64 m.next) ∧ w'.cell? ⟨w4.heap.size, 0, none⟩ = some (.slice aa AM.al.length ca) ∧ w'.cell? ⟨w4.heap.size, 1, none⟩ = some (.int .i64 AM.next) ∧ w'.cell? ⟨w6.heap.size, 0, none⟩ = some (.slice ab AM.al.length cb) ∧ w'.cell? ⟨w6.heap.size, 1, none⟩ = some (.int .i64 AM.next) ∧ Ext w6b w') → Ext w' w'' → (w''.cell? ⟨w.heap.size, 0, none⟩ = some (.slice a m.al.length cp) ∧ w''.cell? ⟨w.heap.size, 1, none⟩ = some (.int .i64 m.next) ∧ w''.cell? ⟨w2.heap.size, 0, none⟩ = some (.slice ah m.al.length ch) ∧ w''.cell? ⟨w2.heap.size, 1, none⟩ = some (.int .i64 m.next) ∧ w''.cell? ⟨w4.heap.size, 0, none⟩ = some (.slice aa AM.al.length ca) ∧ w''.cell? ⟨w4.heap.size, 1, none⟩ = some (.int .i64 AM.next) ∧ w''.cell? ⟨w6.heap.size, 0, none⟩ = some (.slice ab AM.al.length cb) ∧ w''.cell? ⟨w6.heap.size, 1, none⟩ = some (.int .i64 AM.next) ∧ Ext w6b w'') := by
      rintro w' w'' ⟨k0, k1, k2, k3, k4, k5, k6, k7, kE⟩ h
      exact ⟨h.cell k0, h.cell k1, h.cell k2, h.cell k3, h.cell k4, h.cell k5, h.cell k6, h.cell k7, Ext.trans kE h⟩
    go_region_held3 (fun w' => (w'.cell? ⟨w.heap.size, 0, none⟩ = some (.slice a m.al.length cp) ∧ w'.cell? ⟨w.heap.size, 1, none⟩ = some (.int .i64 m.next) ∧ w'.cell? ⟨w2.heap.size, 0, none⟩ = some (.slice ah m.al.length ch) ∧ w'.cell? ⟨w2.heap.size, 1, none⟩ = some (.int .i64 m.next) ∧ w'.cell? ⟨w4.heap.size, 0, none⟩ = some (.slice aa AM.al.length ca) ∧ w'.cell? ⟨w4.heap.size, 1, none⟩ = some (.int .i64 AM.next) ∧ w'.cell? ⟨w6.heap.size, 0, none⟩ = some (.slice ab AM.al.length cb) ∧ w'.cell? ⟨w6.heap.size, 1, none⟩ = some (.int .i64 AM.next) ∧ Ext w6b w')) (first | assumption | exact ⟨bM_0, bM_1, bH_0, bH_1, bA_0, bA_1, bB_0, bB_1, (Ext.refl _).drew⟩ | (refine hSk _ _ (by assumption) ?_; first | assumption | exact (Ext.refl _).alloc _ | exact ((Ext.refl _).alloc _).drew)) (first | (go_at_call 23; (with_reducible refine (ref26_Same (Als.ext hAa ?_) (Als.ext hAb ?_)).mono ?_); (exact And.right (And.right (And.right (And.right (And.right (And.right (And.right (And.right (by assumption))))))))); (exact And.right (And.right (And.right (And.right (And.right (And.right (And.right (And.right (by assumption))))))))); rintro e wr0 ⟨rfl, hR0⟩) | (go_at_call 23; (with_reducible refine (ref26_Same (Als.ext hL ?_) (Als.ext hT ?_)).mono ?_); (exact And.right (And.right (And.right (And.right (And.right (And.right (And.right (And.right (by assumption))))))))); (exact And.right (And.right (And.right (And.right (And.right (And.right (And.right (And.right (by assumption))))))))); rintro e wr1 ⟨rfl, hR1⟩) | (go_at_call 18; refine (allocs_Check (hL.ext ?_) hn).mono ?_; (exact And.right (And.right (And.right (And.right (And.right (And.right (And.right (And.right (by assumption))))))))); rintro e wr2 ⟨rfl, hR2⟩) | (go_at_call 24; refine (ref26_Check (hT.ext ?_) hn).mono ?_; (exact And.right (And.right (And.right (And.right (And.right (And.right (And.right (And.right (by assumption))))))))); rintro e wr3 ⟨rfl, hR3⟩))
    all_goals
      have hRR := And.right (And.right (And.right (And.right (And.right (And.right (And.right (And.right ((by assumption : (World.cell? _ ⟨w.heap.size, 0, none⟩ = some (.slice a m.al.length cp) ∧ World.cell? _ ⟨w.heap.size, 1, none⟩ = some (.int .i64 m.next) ∧ World.cell? _ ⟨w2.heap.size, 0, none⟩ = some (.slice ah m.al.length ch) ∧ World.cell? _ ⟨w2.heap.size, 1, none⟩ = some (.int .i64 m.next) ∧ World.cell? _ ⟨w4.heap.size, 0, none⟩ = some (.slice aa AM.al.length ca) ∧ World.cell? _ ⟨w4.heap.size, 1, none⟩ = some (.int .i64 AM.next) ∧ World.cell? _ ⟨w6.heap.size, 0, none⟩ = some (.slice ab AM.al.length cb) ∧ World.cell? _ ⟨w6.heap.size, 1, none⟩ = some (.int .i64 AM.next) ∧ Ext w6b _))))))))))
      go_wp2
      go_ret
      exact ⟨rfl, hF6.trans hRR⟩

  · have hg' := Lib.hid hg
    clear hg hA
    go_enter Try.func4, Try.ntmps4
    go_wp2_with fail
    refine (ref26_Great hL).mono ?_
    rintro e w1 ⟨rfl, hE1⟩
    rw [hg'.out]
    go_wp2
    go_ret
    exact ⟨rfl, hF.trans hE1⟩

set_option maxRecDepth 100000 in
theorem allocsAdds_lifted (os : Os) (started : os.Started) (H : Type) (enc : TypeId × Value → H) :
    ReturnsInHanded {} Try.checked os 4 .any (Rows.allocsAddsSpec.pre6 enc Try.prog Try.f4 Rows.allocsAddsRow.domain false) (Rows.allocsAddsSpec.post enc Try.prog Try.f4 false true false false) := by
  refine returnsInHanded_of_change (C := Try.checked) Tryown started (by kernel_rfl) Try.func4
    (ChangeSpec.witness6 (enc := enc) (C := Try.checked) false ⟨#[], #[.agg #[.slice none 0 0, .int .i64 0], .int .i64 0], []⟩ 8 (by kernel_rfl) (by kernel_rfl) (by kernel_rfl) (by kernel_rfl)) ?_
  intro W base args ds gs before hval0 hW _ _
  have hval : ∀ (j : Nat) t v, Try.f4.params[j]? = some t → args[j]? = some v → Value.okWide Try.prog W .any base t v := hval0
  have hW' := hW
  obtain ⟨p, q, hA0, hV, rfl, hfz, hnd⟩ := hW
  have hA : DataW.TrodAll enc Try.prog W 0 (fun _ => true) true Try.f4.params.toList args.toList ds p := hA0
  rw [Try.params4] at hA hval
  obtain ⟨v0, vs0, d0, ds0, p0, q0, hargs, rfl, rfl, h0, r0⟩ := trodAll_cons hA
  obtain ⟨v1, vs1, d1, ds1, p1, q1, rfl, rfl, rfl, h1, r1⟩ := trodAll_cons r0
  obtain ⟨rfl, rfl, rfl⟩ := trodAll_nil r1
  obtain rfl : args = #[v0, v1] := by cases args; simp_all
  obtain ⟨x0, u0, rfl, k0, wf0⟩ := open_mem (hval 0 31 v0 rfl rfl) h0
  obtain ⟨x1, rfl, rfl, rfl, wf1⟩ := open_int Try.underlying3 (hval 1 3 v1 rfl rfl) h1
  refine (allocsAdds_walk x1 k0 wf0.1).mono fun e W' ⟨he, hb⟩ => ?_
  subst he
  exact ⟨_, rfl, post_law TrylaidOut (tb := 4) rfl Try.underlying4 (by kernel_rfl) rfl (fun ds hd => match ds, hd with | [a0, a1], _ => rfl) hW' hb⟩

theorem allocsAdds_holds : Rows.AllocsAddsSaid :=
  OpenClaim.holds_of_wide 4 Try.f4 rfl rfl rfl rfl rfl rfl rfl ⟨rfl, rfl, rfl, rfl, rfl⟩ rfl rfl rfl rfl rfl (by kernel_rfl) Try.func4 (by kernel_rfl)
    (of_decide_eq_true (by kernel_rfl)) (by unfold Func.isWrapper; first | (rw [if_pos (by decide +kernel)]; kernel_rfl) | (rw [if_neg (by decide +kernel)]; exact ⟨rfl, rfl⟩))
    (fun os started H enc _ => allocsAdds_lifted os started H enc)

end Go.Proofs.Ytcklnoefheanlaa
