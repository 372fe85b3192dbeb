/- The statement DeallocAlls: for all lists of stacks and calls the call returns true. No condition. (printed by gen/all34.py) -/
import Derived.Test.YtebocgnbcokogaaDeaD
import Derived.Test.YtebocgnbcokogaaReadI
import Derived.Test.YtebocgnbcokogaaClose
namespace Go.Proofs.Ytebocgnbcokogaa
set_option maxRecDepth 100000
open Go.ChangeShapes Go.WideShapes Go.ChangeAt Go.RowKit

set_option maxRecDepth 100000 in
set_option maxHeartbeats 6400000 in
theorem deallocAlls_walk {l : List Stk} {run : List Int} {s v : Value} {w : World} (hl : Kts w s l) (hr : Nts w v run) :
    Calls Try.prog 5 #[s, v] w fun e w' => e = .returned (.bool true) ∧ Ext w w' := by
  obtain ⟨a, cp, rfl, hlc, hcm, -⟩ := hl.form
  obtain ⟨a2, cp2, rfl, -⟩ := hr.form
  unfold maxLen at hcm
  have hL := Lib.hid hl
  have hR := Lib.hid hr
  clear hl hr
  go_enter Try.func5, Try.ntmps5
  go_wp2
  all_goals first | (go_ret; exact ⟨rfl, Ext.refl _⟩) | skip
  all_goals
    go_loopw [5] (fun iv wr => ∃ k : Nat, k ≤ l.length ∧ iv = .int .i64 k ∧ Ext w wr) (fun iv _ => l.length - (intOf iv).toNat)
    case atStart => exact ⟨0, Nat.zero_le _, rfl, Ext.refl _⟩
    case round =>
      obtain ⟨k, hk, rfl, hE⟩ := hrel
      by_cases hlt : k < l.length
      · obtain ⟨x, hx⟩ : ∃ x, l[k]? = some x := ⟨l[k], by simp [hlt]⟩
        obtain ⟨b, off, sv, rfl, hbb, d0, d1, hcl⟩ := (hL.out.ext hE).cell hx
        obtain ⟨ca, ccp, rfl, -⟩ := hcl.form
        obtain ⟨xn, xl⟩ := x
        replace hcl := Lib.hid hcl
        clear hx
        dsimp only at *
        cases hg : greatK xl
        all_goals
          replace hg := Lib.hid hg
          go_wp2_with fail
          refine (ref33_Great hcl.out).mono ?_
          rintro e w3 ⟨rfl, hE3⟩
          rw [hg.out]
          go_wp2
        · go_roundw
          case rel => exact ⟨k + 1, by omega, by go_num, hE.trans hE3⟩
          case measure => simp [intOf]; omega
        · go_ret
          exact ⟨rfl, hE.trans hE3⟩
      · have hkl : k = l.length := by omega
        subst hkl
        have hlt' : decide ((l.length : Int) < (l.length : Int)) = false := decide_eq_false (by omega)
        obtain ⟨⟨q1, q2, q3⟩, hq⟩ : ∃ A, allR34 l run = A := ⟨_, rfl⟩
        replace hq := Lib.hid hq
        clear hlt
        go_wp2_with fail
        refine (dealloc_All (hL.out.ext hE) (hR.out.ext hE)).mono ?_
        rintro e w3 ⟨rfl, hE3⟩
        rw [hq.out]
        go_wp2_with fail
        refine (ref34_All ((hL.out.ext hE).ext hE3) ((hR.out.ext hE).ext hE3)).mono ?_
        rintro e w4 ⟨rfl, hE4⟩
        rw [hq.out]
        go_wp2
        go_ret
        exact ⟨rfl, (hE.trans hE3).trans hE4⟩

set_option maxRecDepth 100000 in
theorem deallocAlls_lifted (os : Os) (started : os.Started) (H : Type) (enc : TypeId × Value → H) :
    ReturnsInHanded {} Try.checked os 5 .any (Rows.deallocAllsSpec.pre6 enc Try.prog Try.f5 Rows.deallocAllsRow.domain false) (Rows.deallocAllsSpec.post enc Try.prog Try.f5 false true false false) := by
  refine returnsInHanded_of_change (C := Try.checked) Tryown started (by kernel_rfl) Try.func5
    (ChangeSpec.witness6 (enc := enc) (C := Try.checked) false ⟨#[], #[.slice none 0 0, .slice none 0 0], []⟩ 8 (by kernel_rfl) (by kernel_rfl) (by kernel_rfl) (by kernel_rfl)) ?_
  intro W base args ds gs before hval0 hW _ _
  have hval : ∀ (j : Nat) t v, Try.f5.params[j]? = some t → args[j]? = some v → Value.okWide Try.prog W .any base t v := hval0
  have hW' := hW
  obtain ⟨p, q, hA0, hV, rfl, hfz, hnd⟩ := hW
  have hA : DataW.TrodAll enc Try.prog W 0 (fun _ => true) true Try.f5.params.toList args.toList ds p := hA0
  rw [Try.params5] at hA hval
  obtain ⟨v0, vs0, d0, ds0, p0, q0, hargs, rfl, rfl, h0, r0⟩ := trodAll_cons hA
  obtain ⟨v1, vs1, d1, ds1, p1, q1, rfl, rfl, rfl, h1, r1⟩ := trodAll_cons r0
  obtain ⟨rfl, rfl, rfl⟩ := trodAll_nil r1
  obtain rfl : args = #[v0, v1] := by cases args; simp_all
  obtain ⟨x0, k0, wf0⟩ := open_manystacks Try.underlying51 (hval 0 51 v0 rfl rfl) h0
  obtain ⟨x1, k1, wf1⟩ := open_ints' Try.underlying52 (hval 1 52 v1 rfl rfl) h1
  refine (deallocAlls_walk k0 k1).mono fun e W' ⟨he, hb⟩ => ?_
  subst he
  exact ⟨_, rfl, post_law TrylaidOut (tb := 4) rfl Try.underlying4 (by kernel_rfl) rfl (fun ds hd => match ds, hd with | [a0, a1], _ => rfl) hW' hb⟩

theorem deallocAlls_holds : Rows.DeallocAllsSaid :=
  OpenClaim.holds_of_wide 5 Try.f5 rfl rfl rfl rfl rfl rfl rfl ⟨rfl, rfl, rfl, rfl, rfl⟩ rfl rfl rfl rfl rfl (by kernel_rfl) Try.func5 (by kernel_rfl)
    (of_decide_eq_true (by kernel_rfl)) (by unfold Func.isWrapper; first | (rw [if_pos (by decide +kernel)]; kernel_rfl) | (rw [if_neg (by decide +kernel)]; exact ⟨rfl, rfl⟩))
    (fun os started H enc _ => deallocAlls_lifted os started H enc)

end Go.Proofs.Ytebocgnbcokogaa
