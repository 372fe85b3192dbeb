/- The statement DeallocMany: for all allocations and calls the call returns true. Condition: the laid permissions. (printed by gen/dea34b.py) -/
import Derived.Test.YtjfkfibhgilolaaDoorDeaE
import Derived.Test.YtjfkfibhgilolaaDoorDeaD
import Derived.Test.YtjfkfibhgilolaaDoorReadK
import Derived.Test.YtjfkfibhgilolaaDoorReadI
import Derived.Test.YtjfkfibhgilolaaDoorClose
import Derived.Test.YtjfkfibhgilolaaDoorDoor
namespace Go.Proofs.YtjfkfibhgilolaaDoor
set_option maxRecDepth 100000
open Go.ChangeShapes Go.WideShapes Go.ChangeAt Go.RowKit

theorem allR_err {l : List Stk} {run : List Int} (h : (allR34 l run).2.2 ≠ 0) : (allR34 l run).1 = 0 ∧ (allR34 l run).2.1 = 0 := by
  cases h1 : okR run
  · rw [allR_bad h1]; exact ⟨rfl, rfl⟩
  · by_cases h2 : 400 < l.length
    · rw [allR_many h1 h2]; exact ⟨rfl, rfl⟩
    · cases h3 : l.any badK
      · exfalso
        cases h4 : l.findIdx? (stayK run) with
        | none => rw [allR_none h1 h2 h3 h4] at h; exact h rfl
        | some i => rw [allR_some h1 h2 h3 h4] at h; exact h rfl
      · rw [allR_badK h1 h2 h3]; exact ⟨rfl, rfl⟩
/-- All's answer, when it has no error: each allocation before the told one may end. -/
theorem all_law {l : List Stk} {run : List Int} {n why : Int} (h : allR34 l run = (n, why, 0)) : (∀ (i : Nat) x, l[i]? = some x → (endR34 x run).2 = 0) ∧
    ((∃ k : Nat, n = k ∧ k < l.length ∧ why = 2 ∧ (∀ x, l[k]? = some x → (endR34 x run).1 = 2) ∧ ∀ (i : Nat) x, i < k → l[i]? = some x → (endR34 x run).1 = 0) ∨ (n = (l.length : Int) ∧ why = 0 ∧ ∀ (i : Nat) x, l[i]? = some x → (endR34 x run).1 = 0)) := by
  have h1 : okR run = true := by
    cases h1 : okR run
    · rw [allR_bad h1] at h; cases h
    · rfl
  have h2 : ¬ 400 < l.length := by
    intro h2
    rw [allR_many h1 h2] at h; cases h
  have h3 : l.any badK = false := by
    cases h3 : l.any badK
    · rfl
    · rw [allR_badK h1 h2 h3] at h; cases h
  have hok : ∀ (i : Nat) x, l[i]? = some x → askErr x run = 0 := by
    intro i x hx
    have hb := List.any_eq_false.1 h3 x (List.mem_of_getElem? hx)
    have hk : okK x = true := by simpa [badK] using hb
    rw [askErr, if_pos h1, stkErr_ok hk]
  have hend : ∀ (i : Nat) x, l[i]? = some x → endR34 x run = (if freeB x.cells run then 0 else 2, 0) := fun i x hx => endR34_ok (hok i x hx)
  refine ⟨fun i x hx => by rw [hend i x hx], ?_⟩
  cases h4 : l.findIdx? (stayK run) with
  | none =>
    rw [allR_none h1 h2 h3 h4] at h
    cases h
    refine .inr ⟨rfl, rfl, fun i x hx => ?_⟩
    rw [hend i x hx]
    have := List.findIdx?_eq_none_iff.1 h4 x (List.mem_of_getElem? hx)
    have hf : freeB x.cells run = true := by simpa [stayK] using this
    simp [hf]
  | some k =>
    rw [allR_some h1 h2 h3 h4] at h
    cases h
    obtain ⟨hk, hk1, hk2⟩ := List.findIdx?_eq_some_iff_getElem.1 h4
    refine .inl ⟨k, rfl, hk, rfl, fun x hx => ?_, fun i x hi hx => ?_⟩
    · rw [hend k x hx]
      rw [List.getElem?_eq_getElem hk] at hx
      cases hx
      have hf : freeB l[k].cells run = false := by simpa [stayK] using hk1
      simp [hf]
    · have hil : i < l.length := by omega
      rw [hend i x hx]
      rw [List.getElem?_eq_getElem hil] at hx
      cases hx
      have := hk2 i hi
      have hf : freeB l[i].cells run = true := by simpa [stayK] using this
      simp [hf]

set_option maxRecDepth 100000 in
set_option maxHeartbeats 6400000 in
theorem deallocMany_walk {l : List Stk} {run : List Int} {s v : Value} {w : World} (hp : Perms w) (hl : Kts w s l) (hr : Nts w v run) :
    Calls Tryd.prog 9 #[s, v] w fun e w' => e = .returned (.bool true) ∧ Ext w w' := by
  obtain ⟨a, cp, rfl, hlc, hcm, -⟩ := hl.form
  obtain ⟨a2, cp2, rfl, -⟩ := hr.form
  unfold maxLen at hcm
  have hL := Lib.hid hl
  have hR := Lib.hid hr
  clear hl hr
  obtain ⟨⟨q1, q2, q3⟩, hq0⟩ : ∃ A, allR34 l run = A := ⟨_, rfl⟩
  have hq := Lib.hid hq0
  have hcase : (q3 ≠ 0 ∧ q1 = 0 ∧ q2 = 0) ∨ (q3 = 0 ∧ ((∀ (i : Nat) x, l[i]? = some x → (endR34 x run).2 = 0) ∧
    ((∃ k : Nat, q1 = k ∧ k < l.length ∧ q2 = 2 ∧ (∀ x, l[k]? = some x → (endR34 x run).1 = 2) ∧ ∀ (i : Nat) x, i < k → l[i]? = some x → (endR34 x run).1 = 0) ∨ (q1 = (l.length : Int) ∧ q2 = 0 ∧ ∀ (i : Nat) x, l[i]? = some x → (endR34 x run).1 = 0)))) := by
    by_cases h : q3 = 0
    · subst h
      exact .inr ⟨rfl, all_law hq0⟩
    · have := allR_err (l := l) (run := run) (by rw [hq0]; exact h)
      rw [hq0] at this
      exact .inl ⟨h, this⟩
  replace hcase := Lib.hid hcase
  clear hq0
  go_enter Tryd.func9, Tryd.ntmps9
  go_wp2_with fail
  refine (law34_alive hp).mono ?_
  rintro e w1 ⟨rfl, hE1⟩
  have hL1 := Lib.hid (hL.out.ext hE1)
  have hR1 := Lib.hid (hR.out.ext hE1)
  clear hL hR
  go_wp2
  all_goals first | (go_ret; exact ⟨rfl, hE1⟩) | skip
  all_goals
    go_loopw [6] (fun iv wr => ∃ k : Nat, k ≤ l.length ∧ iv = .int .i64 k ∧ Ext w1 wr) (fun iv _ => l.length - (intOf iv).toNat)
    case atStart => exact ⟨0, Nat.zero_le _, rfl, Ext.refl _⟩
    case round =>
      obtain ⟨k, hk, rfl, hE⟩ := hrel
      by_cases hlt : k < l.length
      · obtain ⟨x, hx⟩ : ∃ x, l[k]? = some x := ⟨l[k], by simp [hlt]⟩
        obtain ⟨b, off, sv, rfl, hbb, d0, d1, hcl⟩ := (hL1.out.ext hE).cell hx
        obtain ⟨ca, ccp, rfl, -⟩ := hcl.form
        obtain ⟨xn, xl⟩ := x
        replace hcl := Lib.hid hcl
        clear hx
        dsimp only at *
        cases hg : greatK xl
        all_goals
          replace hg := Lib.hid hg
          go_wp2_with fail
          refine (ref33_Great hcl.out).mono ?_
          rintro e w3 ⟨rfl, hE3⟩
          rw [hg.out]
          go_wp2
        · go_roundw
          case rel => exact ⟨k + 1, by omega, by go_num, hE.trans hE3⟩
          case measure => simp [intOf]; omega
        · go_ret
          exact ⟨rfl, hE1.trans (hE.trans hE3)⟩
      · have hkl : k = l.length := by omega
        subst hkl
        have hlt' : decide ((l.length : Int) < (l.length : Int)) = false := decide_eq_false (by omega)
        clear hlt
        go_wp2_with fail
        refine (dealloc_All (hL1.out.ext hE) (hR1.out.ext hE)).mono ?_
        rintro e w3 ⟨rfl, hE3⟩
        rw [hq.out]
        have hL2 := Lib.hid ((hL1.out.ext hE).ext hE3)
        have hR2 := Lib.hid ((hR1.out.ext hE).ext hE3)
        rcases hcase.out with ⟨h1, rfl, rfl⟩ | ⟨rfl, hz, hcase⟩
        · have t1 : (q3 != 0) = true := by simp [h1]
          clear h1
          go_wp2
          go_ret
          exact ⟨rfl, hE1.trans (hE.trans hE3)⟩
        replace hz := Lib.hid hz
        have hboth : Hid (∃ K : Nat, K ≤ l.length ∧ q1 = (K : Int) ∧ (K < l.length → q2 = 2) ∧ (K = l.length → q2 = 0) ∧ (∀ x, l[K]? = some x → (endR34 x run).1 = 2) ∧ ∀ (i : Nat) x, i < K → l[i]? = some x → (endR34 x run).1 = 0) := Hid.mk (by
          rcases hcase with ⟨K, h1, h2, h3, h4, h5⟩ | ⟨h1, h2, h3⟩
          · exact ⟨K, by omega, h1, fun _ => h3, fun h => by omega, h4, h5⟩
          · exact ⟨l.length, Nat.le_refl _, h1, fun h => by omega, fun _ => h2, fun x hx => by simp at hx, fun i x _ hx => h3 i x hx⟩)
        clear hcase
        obtain ⟨K, hK, rfl, hK2, hK0, hKs, hKi⟩ := hboth.out
        clear hboth
        replace hKs := Lib.hid hKs
        replace hKi := Lib.hid hKi
        replace hK2 := Lib.hid hK2
        replace hK0 := Lib.hid hK0
        go_wp2
        go_loopw [10] (fun iv wq => ∃ k : Nat, k ≤ K ∧ iv = .int .i64 k ∧ Ext w3 wq) (fun iv _ => l.length - (intOf iv).toNat)
        case atStart => exact ⟨0, Nat.zero_le _, rfl, Ext.refl _⟩
        case round =>
          obtain ⟨k, hk, rfl, hQ⟩ := hrel
          by_cases hlt : k < l.length
          · have hlt' : decide (k < l.length) = true := decide_eq_true hlt
            obtain ⟨x, hx⟩ : ∃ x, l[k]? = some x := ⟨l[k], by simp [hlt]⟩
            have hz1 := hz.out k x hx
            have hlow : k < K → (endR34 x run).1 = 0 := fun h => hKi.out k x h hx
            have hhit : k = K → (endR34 x run).1 = 2 := fun h => hKs.out x (by rw [← h]; exact hx)
            obtain ⟨b, off, sv, rfl, hbb, d0, d1, hcl⟩ := (hL2.out.ext hQ).cell hx
            obtain ⟨ca, ccp, rfl, -⟩ := hcl.form
            obtain ⟨⟨e1, e2⟩, hee⟩ : ∃ A, endR34 x run = A := ⟨_, rfl⟩
            rw [hee] at hz1 hlow hhit
            obtain ⟨xn, xl⟩ := x
            replace hcl := Lib.hid hcl
            clear hx
            dsimp only at *
            subst hz1
            by_cases hkK : k < K
            · obtain rfl := hlow hkK
              replace hee := Lib.hid hee
              clear hlow hhit
              go_wp2_with fail
              refine (dealloc_End hcl.out (hR2.out.ext hQ)).mono ?_
              rintro e w5 ⟨rfl, hE5⟩
              rw [hee.out]
              go_wp2
              go_roundw
              case rel => exact ⟨k + 1, by omega, by go_num, hQ.trans hE5⟩
              case measure => simp [intOf]; omega
            · obtain rfl : k = K := by omega
              obtain rfl := hhit rfl
              have hq2 := hK2.out hlt
              subst hq2
              replace hee := Lib.hid hee
              clear hlow hhit hK2 hK0
              go_wp2_with fail
              refine (dealloc_End hcl.out (hR2.out.ext hQ)).mono ?_
              rintro e w5 ⟨rfl, hE5⟩
              rw [hee.out]
              go_wp2
              go_ret
              exact ⟨rfl, hE1.trans (hE.trans (hE3.trans (hQ.trans hE5)))⟩
          · have hkl : k = l.length := by omega
            have hKl : K = l.length := by omega
            have hq2 := hK0.out hKl
            subst hq2
            subst hkl
            have hlt' : decide ((l.length : Int) < (l.length : Int)) = false := decide_eq_false (by omega)
            have t2 : ((K : Int) == (l.length : Int)) = true := by simp [hKl]
            have t2' : (K == l.length) = true := by simp [hKl]
            clear hlt hKl hK hk
            go_wp2
            go_ret
            exact ⟨rfl, hE1.trans (hE.trans (hE3.trans hQ))⟩

set_option maxRecDepth 100000 in
theorem deallocMany_contract (H : Type) (enc : TypeId × Value → H) (W : World) (base : Nat) (args : Array Value) (ds gs : List (DataW H)) (before : List MemPlace)
    (hval0 : ∀ (j : Nat) t v, Tryd.f9.params[j]? = some t → args[j]? = some v → Value.okWide Tryd.prog W .any base t v)
    (hW : DataW.Whole enc Tryd.prog Tryd.f9.params.toList Rows.deallocManySpec.vars false W args.toList ds gs before) (hL : laidMetH Tryd.prog Rows.deallocManyRow.laid W) :
    Calls Tryd.prog 9 args W fun e W' => ∃ v, e = .returned v ∧ Rows.deallocManySpec.post enc Tryd.prog Tryd.f9 false true false false W args v W' := by
  have hval : ∀ (j : Nat) t v, Tryd.f9.params[j]? = some t → args[j]? = some v → Value.okWide Tryd.prog W .any base t v := hval0
  have hW' := hW
  obtain ⟨p, q, hA0, hV, rfl, hfz, hnd⟩ := hW
  have hA : DataW.TrodAll enc Tryd.prog W 0 (fun _ => true) true Tryd.f9.params.toList args.toList ds p := hA0
  rw [Tryd.params9] at hA hval
  obtain ⟨v0, vs0, d0, ds0, p0, q0, hargs, rfl, rfl, h0, r0⟩ := trodAll_cons hA
  obtain ⟨v1, vs1, d1, ds1, p1, q1, rfl, rfl, rfl, h1, r1⟩ := trodAll_cons r0
  obtain ⟨rfl, rfl, rfl⟩ := trodAll_nil r1
  obtain rfl : args = #[v0, v1] := by cases args; simp_all
  obtain ⟨x0, k0, wf0⟩ := open_manystacks Tryd.underlying59 (hval 0 59 v0 rfl rfl) h0
  obtain ⟨x1, k1, wf1⟩ := open_ints' Tryd.underlying37 (hval 1 37 v1 rfl rfl) h1
  refine (deallocMany_walk (perms_of_laid hL) k0 k1).mono fun e W' ⟨he, hb⟩ => ?_
  subst he
  exact ⟨_, rfl, post_law TrydlaidOut (tb := 4) rfl Tryd.underlying4 (by kernel_rfl) rfl (fun ds hd => match ds, hd with | [a0, a1], _ => rfl) hW' hb⟩
theorem deallocMany_met (os : Os) : laidMet Tryd.prog Rows.deallocManyRow.laid ((doorWorld os).forCall (fun _ _ => 0) ⟨#[], #[.slice none 0 0, .slice none 0 0], []⟩).memory :=
  laidMet_of_run' 8 (by kernel_rfl) (by kernel_rfl)
theorem deallocMany_reads (os : Os) {H : Type} (enc : TypeId × Value → H) : ∃ places, DataW.whole enc Tryd.prog ((doorWorld os).forCall (fun _ _ => 0) ⟨#[], #[.slice none 0 0, .slice none 0 0], []⟩).memory Tryd.f9.params.toList Rows.deallocManySpec.vars false (#[.slice none 0 0, .slice none 0 0] : Array Value).toList 8 = some ([.nil, .nil], [], places) :=
  ⟨[], by kernel_rfl⟩
set_option maxRecDepth 100000 in
theorem deallocMany_lifted (os : Os) (started : os.Started) (H : Type) (enc : TypeId × Value → H) (F : Stop.Interp) :
    ReturnsInHanded {} Tryd.checked os 9 .any ((OpenSpec.ofChange Rows.deallocManySpec).preRow enc Tryd.prog Tryd.f9 Rows.deallocManyRow.domain false Rows.deallocManyRow.laid) (((OpenSpec.ofChange Rows.deallocManySpec).at F).post enc Tryd.prog Tryd.f9 false true false false) := by
  obtain ⟨places, hx⟩ := deallocMany_reads os enc
  refine returnsInHanded_of_row (C := Tryd.checked) (s := OpenSpec.ofChange Rows.deallocManySpec) Trydown started (by kernel_rfl) Tryd.func9
    (witness_row_at (enc := enc) (C := Tryd.checked) false (doorWorld os) #[.slice none 0 0, .slice none 0 0] rfl (by kernel_rfl) (by kernel_rfl) (by kernel_rfl)
      (OpenSpec.preRow_of_cond 8 hx (by kernel_rfl) (fun k hk => by cases hk) (by kernel_rfl) (deallocMany_met os))) ?_
  intro W base args ds gs before hval hW _ _ _ hL _ _
  exact deallocMany_contract H enc W base args ds gs before hval hW hL
theorem deallocMany_said : Rows.DeallocManySaid :=
  OpenClaim.holds_of_cond 9 Tryd.f9 rfl rfl rfl rfl rfl rfl rfl ⟨rfl, rfl, rfl, rfl, rfl⟩ rfl rfl rfl rfl rfl (by kernel_rfl) Tryd.func9 (by kernel_rfl)
    (of_decide_eq_true (by kernel_rfl)) (by unfold Func.isWrapper; first | (rw [if_pos (by decide +kernel)]; kernel_rfl) | (rw [if_neg (by decide +kernel)]; exact ⟨rfl, rfl⟩))
    (fun os started H enc _ F => by rw [OpenClaim.pre_eq_preRow]; exact deallocMany_lifted os started H enc F)
theorem deallocMany_plain (f : FuncId) (fn : Func) (hf : Tryd.pinned.checked.prog.funcNamed "pawnshop/pawnshoplaw34.DeallocMany" = some f) (hfn : Tryd.pinned.checked.prog.funcs[f]? = some fn) :
    false = Tryd.pinned.checked.prog.looks [] ∧ ∀ (j : Nat) t, fn.params[j]? = some t → Tryd.pinned.checked.prog.wantsStandIn t = false := by
  obtain rfl : f = 9 := Option.some.inj ((show Tryd.prog.funcNamed "pawnshop/pawnshoplaw34.DeallocMany" = some 9 by kernel_rfl).symm.trans hf) |>.symm
  obtain rfl : fn = Tryd.f9 := (Option.some.inj (Tryd.func9.symm.trans hfn)).symm
  refine ⟨by kernel_rfl, fun j t ht => ?_⟩
  have hm : t ∈ Tryd.f9.params.toList := by simpa using Array.mem_of_getElem? ht
  have hall : (Tryd.f9.params.toList.all fun u => !Tryd.prog.wantsStandIn u) = true := by kernel_rfl
  exact (show Tryd.prog.wantsStandIn t = false by simpa using List.all_eq_true.1 hall t hm)
theorem deallocMany_card : Rows.DeallocManyCardSaid :=
  Claim7.holds_tied_plain_at .later [] _ _ _ _ deallocMany_said (fun _ h => by cases h) (by kernel_rfl) (fun _ h => by cases h) deallocMany_row_tie rfl ⟨rfl, rfl⟩ (by kernel_rfl) rfl deallocMany_plain (by kernel_rfl)

end Go.Proofs.YtjfkfibhgilolaaDoor
