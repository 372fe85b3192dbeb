/- Several texts in one: StkB, StkC, StkD, Law31A, Law31B, DeaA, DeaB, DeaC. -/
import Derived.Test.YtjfkfibhgilolaaDoorQ04
import Derived.LoopIn
import Derived.Deep.QuietTactic
import Derived.BigQuiet
import Derived.Deep.RegionHeld3
import Derived.Deep.RegionLaw
import Derived.WalkMore
import Derived.Deep.LoopGhost
/- Contracts: Great, Check and Same of the reference of layer 33, Check of the program. (printed by gen/stk33.py) -/
namespace Go.Proofs.YtjfkfibhgilolaaDoor
set_option maxRecDepth 100000
open Go.RowKit

set_option maxHeartbeats 800000 in
theorem ref33_Great {l : List (List Item)} {num : Int} {s : Value} {w : World} (hl : Sts w s l) :
    Calls Tryd.prog 42 #[.agg #[.int .i64 num, s]] w fun e w' => e = .returned (.bool (greatK l)) ∧ Ext w w' := by
  have hE0 := (Ext.refl w).alloc (.cells #[.int .i64 num, s] 56)
  have hl0 := hl.ext hE0
  obtain ⟨a, cp, rfl, hlc, hcm, -⟩ := hl.form
  unfold maxLen at hcm
  have hW := Lib.hid hl0
  clear hl hl0
  go_enter Tryd.func42, Tryd.ntmps42
  go_wp2
  obtain ⟨w1, hw1⟩ : ∃ w1, w.alloc (.cells #[.int .i64 num, .slice a l.length cp] 56) = w1 := ⟨_, rfl⟩
  have b2 : w1.cell? ⟨w.heap.size, 1, none⟩ = some (.slice a l.length cp) := by rw [← hw1]; simp
  rw [hw1] at hE0 hW ⊢
  clear hw1
  go_loop [3] (fun iv => ∃ k : Nat, k ≤ l.length ∧ k ≤ 5 ∧ iv = .int .i64 k ∧ Hid ((l.take k).any wideS = false)) (fun iv => l.length - (intOf iv).toNat)
  case atStart => exact ⟨0, Nat.zero_le _, by omega, rfl, by simp [Hid]⟩
  case round =>
    obtain ⟨k, hk, hk4, rfl, hN⟩ := hrel
    by_cases hlt : k < l.length
    · have hlt' : decide ((k : Int) < (l.length : Int)) = true := decide_eq_true (by omega)
      by_cases h4 : k ≤ 4
      · have h4' : decide ((k : Int) ≤ 4) = true := decide_eq_true (by omega)
        obtain ⟨x, hx⟩ : ∃ x, l[k]? = some x := ⟨l[k], by simp [hlt]⟩
        obtain ⟨b, off, sv, rfl, hbb, d0, hcl⟩ := hW.out.cell hx
        have hX := Lib.hid hx
        obtain ⟨ca, ccp, rfl, hclc, hccm, -⟩ := hcl.form
        clear hx hbb
        by_cases h5 : 610 < x.length
        · have h5' : Hid (decide (610 < x.length) = true) := Hid.mk (decide_eq_true (by omega))
          have hg := Lib.hid (greatK_hit hX.out h4 (by simp [wideS, h5]))
          clear h5
          go_wp2_with fail
          refine (ref28_Great hcl).mono ?_
          rintro e wx ⟨rfl, rfl⟩
          rw [h5'.out]
          go_wp2
          go_ret
          exact ⟨by rw [hg.out] <;> rfl, hE0⟩
        · have h5' : Hid (decide (610 < x.length) = false) := Hid.mk (decide_eq_false (by omega))
          have hN2 := Lib.hid (sany_take_succ hN.out hX.out (by simp [wideS, h5]))
          clear h5
          go_wp2_with fail
          refine (ref28_Great hcl).mono ?_
          rintro e wx ⟨rfl, rfl⟩
          rw [h5'.out]
          go_wp2
          go_round
          case rel => exact ⟨k + 1, by omega, by omega, by go_num, hN2.out⟩
          case measure => simp [intOf]; omega
      · have h4' : decide ((k : Int) ≤ 4) = false := decide_eq_false (by omega)
        have h6 : decide ((4 : Int) < (l.length : Int)) = true := decide_eq_true (by omega)
        have hg : Hid (greatK l = true) := Hid.mk (by rw [greatK, decide_eq_true (by omega : 4 < l.length), Bool.or_true])
        go_wp2
        go_ret
        exact ⟨by rw [hg.out] <;> rfl, hE0⟩
    · have hlt' : decide ((k : Int) < (l.length : Int)) = false := decide_eq_false (by omega)
      have hkl : k = l.length := by omega
      subst hkl
      by_cases h4 : 4 < l.length
      · have h6 : decide ((4 : Int) < (l.length : Int)) = true := decide_eq_true (by omega)
        have hg : Hid (greatK l = true) := Hid.mk (by rw [greatK, decide_eq_true h4, Bool.or_true])
        go_wp2
        go_ret
        exact ⟨by rw [hg.out] <;> rfl, hE0⟩
      · have h6 : decide ((4 : Int) < (l.length : Int)) = false := decide_eq_false (by omega)
        have hg : Hid (greatK l = false) := Hid.mk (by
          rw [greatK, decide_eq_false h4, Bool.or_false, List.take_of_length_le (by omega)]
          have := hN.out
          rwa [List.take_length] at this)
        go_wp2
        go_ret
        exact ⟨by rw [hg.out] <;> rfl, hE0⟩

theorem stkErr_bad {x : Stk} (h : okK x = false) : stkErr x = 8 := by simp [stkErr, h]
theorem stkErr_ok {x : Stk} (h : okK x = true) : stkErr x = 0 := by simp [stkErr, h]
theorem okK_cell {x : Stk} {k : Nat} {s : List Item} (hx : x.cells[k]? = some s) (hs : okS s = false) : okK x = false := by
  have : x.cells.all okS = false := all_miss hx hs
  simp [okK, this]

set_option maxHeartbeats 1600000 in
theorem stacks_Check {l : List (List Item)} {num : Int} {s : Value} {w : World} (hl : Sts w s l) :
    Calls Tryd.prog 39 #[.agg #[.int .i64 num, s]] w fun e w' => e = .returned (.int .i64 (stkErr ⟨num, l⟩)) ∧ Ext w w' := by
  have hE0 := (Ext.refl w).alloc (.cells #[.int .i64 num, s] 56)
  have hl0 := hl.ext hE0
  obtain ⟨a, cp, rfl, hlc, hcm, -⟩ := hl.form
  unfold maxLen at hcm
  have hW := Lib.hid hl0
  clear hl hl0
  have hcase : (okK ⟨num, l⟩ = false ∧ (decide (num < 0) = true ∨ (decide (num < 0) = false ∧ (decide (1000000 < num) = true ∨ (decide (1000000 < num) = false ∧ (((l.length : Int) == 0) = true ∨ (((l.length : Int) == 0) = false ∧ decide ((2 : Int) < (l.length : Int)) = true))))))) ∨ (decide (num < 0) = false ∧ decide (1000000 < num) = false ∧ ((l.length : Int) == 0) = false ∧ decide ((2 : Int) < (l.length : Int)) = false ∧ okK ⟨num, l⟩ = l.all okS) := by
    unfold okK inB
    simp only [decide_eq_true_eq, decide_eq_false_iff_not, beq_iff_eq, beq_eq_false_iff_ne]
    by_cases h : 0 ≤ num ∧ num ≤ 1000000 ∧ 1 ≤ l.length ∧ l.length ≤ 2
    · right
      refine ⟨by omega, by omega, by omega, by omega, ?_⟩
      simp [h.1, h.2.1, h.2.2.1, h.2.2.2]
    · left
      refine ⟨?_, by omega⟩
      by_cases h0 : 0 ≤ num
      · by_cases h1 : num ≤ 1000000
        · by_cases h2 : 1 ≤ l.length
          · have h3 : ¬ l.length ≤ 2 := fun h3 => h ⟨h0, h1, h2, h3⟩
            simp [h3]
          · simp [h2]
        · simp [h1]
      · simp [h0]
  rcases hcase with ⟨hbad, g1 | ⟨g1, g2 | ⟨g2, g3 | ⟨g3, g4⟩⟩⟩⟩ | ⟨g1, g2, g3, g4, hall⟩
  iterate 4
    · have hres := Lib.hid (stkErr_bad hbad)
      clear hbad
      go_enter Tryd.func39, Tryd.ntmps39
      go_wp2
      go_ret
      exact ⟨by rw [hres.out] <;> rfl, hE0⟩
  · have hall' := Lib.hid hall
    clear hall
    go_enter Tryd.func39, Tryd.ntmps39
    go_wp2
    obtain ⟨w1, hw1⟩ : ∃ w1, w.alloc (.cells #[.int .i64 num, .slice a l.length cp] 56) = w1 := ⟨_, rfl⟩
    have b2 : w1.cell? ⟨w.heap.size, 1, none⟩ = some (.slice a l.length cp) := by rw [← hw1]; simp
    rw [hw1] at hE0 hW ⊢
    clear hw1
    go_loopw [29] (fun iv wr => ∃ k : Nat, k ≤ l.length ∧ iv = .int .i64 k ∧ Ext w1 wr ∧ Hid ((l.take k).all okS = true)) (fun iv _ => l.length - (intOf iv).toNat)
    case atStart => exact ⟨0, Nat.zero_le _, rfl, Ext.refl _, by simp [Hid]⟩
    case round =>
      obtain ⟨k, hk, rfl, hE, hN⟩ := hrel
      have e2 := hE.cell b2
      by_cases hlt : k < l.length
      · obtain ⟨x, hx⟩ : ∃ x, l[k]? = some x := ⟨l[k], by simp [hlt]⟩
        obtain ⟨b, off, sv, rfl, hbb, d0, hcl⟩ := (hW.out.ext hE).cell hx
        have hX := Lib.hid hx
        obtain ⟨ca, ccp, rfl, -⟩ := hcl.form
        have hC := Lib.hid hcl
        clear hx hbb hcl
        cases hok : okS x
        · have hc : Hid (chk x = 8) := Hid.mk (by simp [chk, hok])
          have hres := Lib.hid (stkErr_bad (okK_cell (x := ⟨num, l⟩) hX.out hok))
          clear hok
          go_wp2_with fail
          refine (items_Check hC.out).mono ?_
          rintro e w2 ⟨rfl, hE2⟩
          rw [hc.out]
          go_wp2
          go_ret
          exact ⟨by rw [hres.out] <;> rfl, (hE0.trans hE).trans hE2⟩
        · have hc : Hid (chk x = 0) := Hid.mk (by simp [chk, hok])
          have hN2 := Lib.hid (all_take_succ hN.out hX.out hok)
          clear hok
          go_wp2_with fail
          refine (items_Check hC.out).mono ?_
          rintro e w2 ⟨rfl, hE2⟩
          rw [hc.out]
          go_wp2
          go_roundw
          case rel => exact ⟨k + 1, by omega, by go_num, hE.trans hE2, hN2.out⟩
          case measure => simp [intOf]; omega
      · have hkl : k = l.length := by omega
        subst hkl
        have hres : Hid (stkErr ⟨num, l⟩ = 0) := Hid.mk (stkErr_ok (by
          rw [hall'.out]
          have := hN.out
          rwa [List.take_length] at this))
        go_wp2
        go_ret
        exact ⟨by rw [hres.out] <;> rfl, hE0.trans hE⟩

set_option maxHeartbeats 1600000 in
theorem ref33_Check {l : List (List Item)} {num : Int} {s : Value} {w : World} (hl : Sts w s l) :
    Calls Tryd.prog 49 #[.agg #[.int .i64 num, s]] w fun e w' => e = .returned (.int .i64 (stkErr ⟨num, l⟩)) ∧ Ext w w' := by
  have hE0 := (Ext.refl w).alloc (.cells #[.int .i64 num, s] 56)
  have hl0 := hl.ext hE0
  obtain ⟨a, cp, rfl, hlc, hcm, -⟩ := hl.form
  unfold maxLen at hcm
  have hW := Lib.hid hl0
  clear hl hl0
  have hcase : (okK ⟨num, l⟩ = false ∧ (inB num = false ∨ (inB num = true ∧ (decide ((l.length : Int) < 1) = true ∨ (decide ((l.length : Int) < 1) = false ∧ decide ((2 : Int) < (l.length : Int)) = true))))) ∨ (inB num = true ∧ decide ((l.length : Int) < 1) = false ∧ decide ((2 : Int) < (l.length : Int)) = false ∧ okK ⟨num, l⟩ = l.all okS) := by
    unfold okK
    simp only [decide_eq_true_eq, decide_eq_false_iff_not]
    cases hn : inB num
    · left; simp
    · by_cases h : 1 ≤ l.length ∧ l.length ≤ 2
      · right
        refine ⟨rfl, by omega, by omega, ?_⟩
        simp [h.1, h.2]
      · left
        refine ⟨?_, .inr ⟨rfl, by omega⟩⟩
        by_cases h2 : 1 ≤ l.length
        · have h3 : ¬ l.length ≤ 2 := fun h3 => h ⟨h2, h3⟩
          simp [h3]
        · simp [h2]
  rcases hcase with ⟨hbad, g1 | ⟨g1, g2 | ⟨g2, g3⟩⟩⟩ | ⟨g1, g2, g3, hall⟩
  iterate 3
    · replace g1 := Lib.hid g1
      have hres := Lib.hid (stkErr_bad hbad)
      clear hbad
      go_enter Tryd.func49, Tryd.ntmps49
      go_wp2_with fail
      refine (ref28_In _ _).mono ?_
      rintro e wx ⟨rfl, rfl⟩
      rw [g1.out]
      go_wp2
      go_ret
      exact ⟨by rw [hres.out] <;> rfl, hE0⟩
  · replace g1 := Lib.hid g1
    have hall' := Lib.hid hall
    clear hall
    go_enter Tryd.func49, Tryd.ntmps49
    go_wp2_with fail
    refine (ref28_In _ _).mono ?_
    rintro e wx ⟨rfl, rfl⟩
    rw [g1.out]
    go_wp2
    obtain ⟨w1, hw1⟩ : ∃ w1, w.alloc (.cells #[.int .i64 num, .slice a l.length cp] 56) = w1 := ⟨_, rfl⟩
    have b2 : w1.cell? ⟨w.heap.size, 1, none⟩ = some (.slice a l.length cp) := by rw [← hw1]; simp
    rw [hw1] at hE0 hW ⊢
    clear hw1
    go_loopw [3] (fun iv wr => ∃ k : Nat, k ≤ l.length ∧ iv = .int .i64 k ∧ Ext w1 wr ∧ Hid ((l.take k).all okS = true)) (fun iv _ => l.length - (intOf iv).toNat)
    case atStart => exact ⟨0, Nat.zero_le _, rfl, Ext.refl _, by simp [Hid]⟩
    case round =>
      obtain ⟨k, hk, rfl, hE, hN⟩ := hrel
      have e2 := hE.cell b2
      by_cases hlt : k < l.length
      · obtain ⟨x, hx⟩ : ∃ x, l[k]? = some x := ⟨l[k], by simp [hlt]⟩
        obtain ⟨b, off, sv, rfl, hbb, d0, hcl⟩ := (hW.out.ext hE).cell hx
        have hX := Lib.hid hx
        obtain ⟨ca, ccp, rfl, -⟩ := hcl.form
        have hC := Lib.hid hcl
        clear hx hbb hcl
        cases hok : okS x
        · have hc : Hid (chk x = 8) := Hid.mk (by simp [chk, hok])
          have hres := Lib.hid (stkErr_bad (okK_cell (x := ⟨num, l⟩) hX.out hok))
          clear hok
          go_wp2_with fail
          refine (ref28_Check hC.out).mono ?_
          rintro e w2 ⟨rfl, hE2⟩
          rw [hc.out]
          go_wp2
          go_ret
          exact ⟨by rw [hres.out] <;> rfl, (hE0.trans hE).trans hE2⟩
        · have hc : Hid (chk x = 0) := Hid.mk (by simp [chk, hok])
          have hN2 := Lib.hid (all_take_succ hN.out hX.out hok)
          clear hok
          go_wp2_with fail
          refine (ref28_Check hC.out).mono ?_
          rintro e w2 ⟨rfl, hE2⟩
          rw [hc.out]
          go_wp2
          go_roundw
          case rel => exact ⟨k + 1, by omega, by go_num, hE.trans hE2, hN2.out⟩
          case measure => simp [intOf]; omega
      · have hkl : k = l.length := by omega
        subst hkl
        have hres : Hid (stkErr ⟨num, l⟩ = 0) := Hid.mk (stkErr_ok (by
          rw [hall'.out]
          have := hN.out
          rwa [List.take_length] at this))
        go_wp2
        go_ret
        exact ⟨by rw [hres.out] <;> rfl, hE0.trans hE⟩

set_option maxHeartbeats 800000 in
theorem ref33_Same {l : List (List Item)} {num : Int} {s u : Value} {w : World} (hs : Sts w s l) (hu : Sts w u l) :
    Calls Tryd.prog 41 #[.agg #[.int .i64 num, s], .agg #[.int .i64 num, u]] w fun e w' => e = .returned (.bool true) ∧ Ext w w' := by
  have hE0 := ((Ext.refl w).alloc (.cells #[.int .i64 num, s] 56)).alloc (.cells #[.int .i64 num, u] 56)
  obtain ⟨a, cp, rfl, hlc, hcm, -⟩ := hs.form
  obtain ⟨a2, cp2, rfl, hlc2, hcm2, -⟩ := hu.form
  unfold maxLen at hcm hcm2
  have hS := Lib.hid (hs.ext hE0)
  have hU := Lib.hid (hu.ext hE0)
  clear hs hu
  go_enter Tryd.func41, Tryd.ntmps41
  go_wp2
  obtain ⟨w1, hw1⟩ : ∃ w1, (w.alloc (.cells #[.int .i64 num, .slice a l.length cp] 56)).alloc (.cells #[.int .i64 num, .slice a2 l.length cp2] 56) = w1 := ⟨_, rfl⟩
  have b2 : w1.cell? ⟨w.heap.size, 1, none⟩ = some (.slice a l.length cp) := by rw [← hw1]; simp
  have b3 : w1.cell? ⟨w.heap.size + 1, 1, none⟩ = some (.slice a2 l.length cp2) := by rw [← hw1]; simp
  rw [hw1] at hE0 hS hU ⊢
  clear hw1
  go_loopw [5] (fun iv wr => ∃ k : Nat, k ≤ l.length ∧ iv = .int .i64 k ∧ Ext w1 wr) (fun iv _ => l.length - (intOf iv).toNat)
  case atStart => exact ⟨0, Nat.zero_le _, rfl, Ext.refl _⟩
  case round =>
    obtain ⟨k, hk, rfl, hE⟩ := hrel
    have e2 := hE.cell b2
    have e3 := hE.cell b3
    by_cases hlt : k < l.length
    · obtain ⟨x, hx⟩ : ∃ x, l[k]? = some x := ⟨l[k], by simp [hlt]⟩
      obtain ⟨b, off, sv, rfl, hbb, c0, hc⟩ := (hS.out.ext hE).cell hx
      obtain ⟨b2, off2, su, rfl, hbb2, d0, hd⟩ := (hU.out.ext hE).cell hx
      obtain ⟨ca, ccp, rfl, -⟩ := hc.form
      obtain ⟨cb, dcp, rfl, -⟩ := hd.form
      have hC := Lib.hid hc
      have hD := Lib.hid hd
      clear hx hc hd hbb hbb2
      have hi0 : (0 : Int) ≤ (k : Int) := by omega
      have hi1 : (k : Int) < (l.length : Int) := by omega
      go_wp2
      have hSk : ∀ w' w'' : World, (w'.cell? ⟨w.heap.size, 1, none⟩ = some (.slice (some ⟨b, off, none⟩) l.length cp) ∧ w'.cell? ⟨w.heap.size + 1, 1, none⟩ = some (.slice (some ⟨b2, off2, none⟩) l.length cp2) ∧ w'.cell? ⟨b, off + k, none⟩ = some (.slice ca x.length ccp) ∧ w'.cell? ⟨b2, off2 + k, none⟩ = some (.slice cb x.length dcp) ∧ Ext wr w') → Ext w' w'' → (w''.cell? ⟨w.heap.size, 1, none⟩ = some (.slice (some ⟨b, off, none⟩) l.length cp) ∧ w''.cell? ⟨w.heap.size + 1, 1, none⟩ = some (.slice (some ⟨b2, off2, none⟩) l.length cp2) ∧ w''.cell? ⟨b, off + k, none⟩ = some (.slice ca x.length ccp) ∧ w''.cell? ⟨b2, off2 + k, none⟩ = some (.slice cb x.length dcp) ∧ Ext wr w'') := by
        rintro w' w'' ⟨k0, k1, k2, k3, kE⟩ h
        exact ⟨h.cell k0, h.cell k1, h.cell k2, h.cell k3, Ext.trans kE h⟩
      go_region_held3 (fun w' => (w'.cell? ⟨w.heap.size, 1, none⟩ = some (.slice (some ⟨b, off, none⟩) l.length cp) ∧ w'.cell? ⟨w.heap.size + 1, 1, none⟩ = some (.slice (some ⟨b2, off2, none⟩) l.length cp2) ∧ w'.cell? ⟨b, off + k, none⟩ = some (.slice ca x.length ccp) ∧ w'.cell? ⟨b2, off2 + k, none⟩ = some (.slice cb x.length dcp) ∧ Ext wr w')) (first | assumption | exact ⟨e2, e3, c0, d0, (Ext.refl _).drew⟩ | (refine hSk _ _ (by assumption) ?_; first | assumption | exact (Ext.refl _).alloc _ | exact ((Ext.refl _).alloc _).drew)) (first | (go_at_call 17; refine (ref28_Same_yes (hC.out.ext ?_) (hD.out.ext ?_)).mono ?_; (exact And.right (And.right (And.right (And.right (by assumption))))); (exact And.right (And.right (And.right (And.right (by assumption))))); rintro e wr0 ⟨rfl, hR0⟩))
      obtain ⟨g0, g1, g2, g3, hRR⟩ := (by assumption : (wr0.cell? ⟨w.heap.size, 1, none⟩ = some (.slice (some ⟨b, off, none⟩) l.length cp) ∧ wr0.cell? ⟨w.heap.size + 1, 1, none⟩ = some (.slice (some ⟨b2, off2, none⟩) l.length cp2) ∧ wr0.cell? ⟨b, off + k, none⟩ = some (.slice ca x.length ccp) ∧ wr0.cell? ⟨b2, off2 + k, none⟩ = some (.slice cb x.length dcp) ∧ Ext wr wr0))
      clear e2; have e2 := g0; clear g0
      clear e3; have e3 := g1; clear g1
      clear c0; have c0 := g2; clear g2
      clear d0; have d0 := g3; clear g3
      go_wp2
      go_roundw
      case rel => exact ⟨k + 1, by omega, by go_num, hE.trans hRR⟩
      case measure => simp [intOf]; omega
    · have hkl : k = l.length := by omega
      subst hkl
      go_wp2
      go_ret
      exact ⟨rfl, hE0.trans hE⟩

end Go.Proofs.YtjfkfibhgilolaaDoor

/- Contracts: Fresh and Twin of the reference of layer 33, New of the program and of the reference. (printed by gen/stk33.py) -/
namespace Go.Proofs.YtjfkfibhgilolaaDoor
set_option maxRecDepth 100000
open Go.RowKit

def based (n : Nat) (tag : Int) : List (List Item) := List.replicate n (baseOf tag)
theorem based_succ (n : Nat) (tag : Int) : based n tag ++ [baseOf tag] = based (n + 1) tag := (List.replicate_succ' ..).symm
theorem based_len (n : Nat) (tag : Int) : (based n tag).length = n := List.length_replicate ..


set_option maxHeartbeats 1600000 in
theorem stacks_New_go (num size tag : Int) (w : World) (hnum : 0 ≤ num ∧ num ≤ 1000000) (hs : 1 ≤ size ∧ size ≤ 2) (ht : inB tag = true) :
    Calls Tryd.prog 35 #[.int .i64 num, .int .i64 size, .int .i64 tag] w (RetK w ⟨num, based size.toNat tag⟩ 0) := by
  obtain ⟨ai, az, hai, haz, hai3, haz3, haby⟩ := Stack.infoE
  have hai := Lib.hid hai; have haz := Lib.hid haz; have hai3 := Lib.hid hai3; have haz3 := Lib.hid haz3; have haby := Lib.hid haby
  obtain ⟨N, rfl⟩ : ∃ N : Nat, size = N := ⟨size.toNat, by omega⟩
  rw [Int.toNat_natCast]
  have hN : N ≤ 2 := by omega
  have q1 : decide (num < 0) = false := decide_eq_false (by omega)
  have q2 : decide (1000000 < num) = false := decide_eq_false (by omega)
  have q3 : decide ((N : Int) < 1) = false := decide_eq_false (by omega)
  have q4 : decide ((2 : Int) < (N : Int)) = false := decide_eq_false (by omega)
  have hbe : Hid (baseErr tag = 0) := Hid.mk (by simp [baseErr, ht])
  have hE0 := ((Ext.refl w).alloc (.cells #[.int .i64 0, .slice none 0 0] 56)).alloc (.cells #[.int .i64 num, .slice none 0 0] 56)
  have bR := (Box.new w 56 #[.int .i64 0, .slice none 0 0]).ext ((Ext.refl _).alloc (.cells #[.int .i64 num, .slice none 0 0] 56))
  have bO := Box.new (World.alloc w (.cells #[.int .i64 0, .slice none 0 0] 56)) 56 #[.int .i64 num, .slice none 0 0]
  simp only [World.size_alloc] at bO
  have hH := Lib.hid (And.intro bR bO)
  clear bR bO
  go_enter Tryd.func35, Tryd.ntmps35
  go_wp2
  obtain ⟨w1, hw1⟩ : ∃ w1, (World.alloc (World.alloc w (.cells #[.int .i64 0, .slice none 0 0] 56)) (.cells #[.int .i64 num, .slice none 0 0] 56)) = w1 := ⟨_, rfl⟩
  have hsz1 : w1.heap.size = w.heap.size + 2 := by rw [← hw1]; simp
  rw [hw1] at hE0 hH ⊢
  clear hw1
  have hsz1 := Lib.hid hsz1
  go_loopw [29] (fun iv wr => ∃ (k : Nat) (v : Value) (vs : List Value), k ≤ N ∧ iv = .int .i64 k ∧ Box wr (w.heap.size + 1) 56 #[.int .i64 num, v] ∧ OwnS wr w1.heap.size v vs (based k tag) ∧ ExtBut (· = w.heap.size + 1) w1 wr) (fun iv _ => N - (intOf iv).toNat)
  case atStart => exact ⟨0, _, [], Nat.zero_le _, rfl, hH.out.2, OTb.nil _ _, ExtBut.refl _ _⟩
  case round =>
    obtain ⟨k, v, vs, hk, rfl, bO, hT, hX⟩ := hrel
    have bR := hH.out.1.but hX (by omega)
    have hF : Ext w wr := ExtBut.ext hE0 hX (fun x h => by omega)
    have hlk : (based k tag).length = k := based_len k tag
    have hOv := hT.outer
    rw [hlk] at hOv
    obtain ⟨av, cv, rfl, hcv1, hcv2, -⟩ := hOv.sl.slice_form
    unfold maxLen at hcv2
    have o0 : wr.cell? ⟨w.heap.size + 1, 1, none⟩ = some (.slice av k cv) := bO.cell 1
    have hBl := bO.lt
    by_cases hlt : k < N
    · have hA := Lib.hid (And.intro trivial (And.intro hT (And.intro hX (And.intro hOv (And.intro bO hlk)))))
      clear hT hX hOv bO hlk bR hs hnum ht
      have hlt' : decide ((k : Int) < (N : Int)) = true := decide_eq_true (by omega)
      go_wp2_with fail
      refine (items_Base tag _).mono ?_
      rintro e w4 ⟨sn, rfl, hOn, hE4⟩
      rw [hbe.out]
      have hslt := fun g e => (Own.lt (g := g) hOn) e
      obtain ⟨an, cn, rfl, hcn, hcn2, -⟩ := (Own.sl hOn).slice_form
      have o4 := hE4.cell o0
      have hE6 := hE4.alloc (.cells #[.slice an (baseOf tag).length cn] 31)
      have hS6 : Sl (w4.alloc (.cells #[.slice an (baseOf tag).length cn] 31)) 1 (.slice (some ⟨w4.heap.size, 0, none⟩) 1 1) 1 (srow (.slice an (baseOf tag).length cn) (baseOf tag)) :=
        (Own.lit' (B := 0) (e := 31) (k := 1) w4 #[.slice an (baseOf tag).length cn] 1 (Nat.zero_le _) (by simp [maxLen]) rfl).sl
      have hB := Lib.hid (And.intro hE6 (And.intro hOn (And.intro hslt hE4)))
      have hk6 : k ≤ 1000000 := by omega
      clear hOn hE4 hE6
      go_wp2_with (at_builtin; refine Hid.out ?_)
      refine Hid.mk ?_
      refine wpList_append_any rfl _ _ 54 54 rfl rfl rfl Tryd.underlying54 Tryd.underlying54 hai.out haz.out hai3.out haz3.out (hA.out.2.2.2.1.ext hB.out.1) hS6 (by simp [srow, Value.oneCell']) (by simp [maxLen]; omega) (by rw [haby.out]; omega) (Nat.le_trans hA.out.2.2.1.size hB.out.1.size) ?_
      intro v' w6 hOv hKv hbv _
      have hlk := hA.out.2.2.2.2.2
      have hP : OwnS w6 w1.heap.size v' (vs ++ [.slice an (baseOf tag).length cn]) (based k tag ++ [baseOf tag]) := OwnS.push hA.out.2.1 hB.out.1 ((OwnI.mono hB.out.2.1 (by have := hA.out.2.2.1.size; omega)).ext ((Ext.refl _).alloc _)) (fun g e => (hslt g e).1) (by rw [hlk]; exact hOv) hKv hbv
      have htk : based k tag ++ [baseOf tag] = based (k + 1) tag := based_succ k tag
      rw [htk] at hP
      obtain ⟨av', cv', rfl, -⟩ := hOv.sl.slice_form
      have hvB := fun g e => (hA.out.2.2.2.1.lt (g := g) e).1
      have hvB' := fun g e => (hOv.lt (g := g) e).1
      have hin' := OwnS.inner_lt hP
      have bO6 := (hA.out.2.2.2.2.1.ext hB.out.1).but (ExtBut.of_keeps hKv) (fun h => by have := hvB _ h; have := hsz1.out; omega)
      have hX6 := ((hA.out.2.2.1.trans (ExtBut.of_ext hB.out.1)).trans' (ExtBut.of_keeps hKv) (fun x hx h => by have := hvB _ h; omega)).trans (ExtBut.setCell w6 ⟨w.heap.size + 1, 1, none⟩ (.slice av' (k + 1) cv'))
      have hP7 := OwnS.but hP (ExtBut.setCell w6 ⟨w.heap.size + 1, 1, none⟩ (.slice av' (k + 1) cv')) (fun g e h => by have := hsz1.out; have h' : g = w.heap.size + 1 := h; omega)
      have o6 : w6.cell? ⟨w.heap.size + 1, 1, none⟩ = some (.slice av k cv) := bO6.cell 1
      have of6 := bO6.frozen 1
      have bO7 := bO6.set 1 (.slice av' (k + 1) cv')
      have hR := Lib.hid (And.intro bO7 (And.intro hP7 hX6))
      clear hvB hvB' hin' bO6 hX6 hP7 bO7 hP hOv hKv hbv hlk htk
      go_wp2
      go_roundw
      case rel => exact ⟨k + 1, _, _, by omega, by go_num, hR.out.1, hR.out.2.1, hR.out.2.2⟩
      case measure => simp [intOf]; omega
    · have hkl : k = N := by omega
      subst hkl
      have hlt' : decide ((k : Int) < (k : Int)) = false := decide_eq_false (by omega)
      have o1 : wr.cell? ⟨w.heap.size + 1, 0, none⟩ = some (.int .i64 num) := bO.cell 0
      have r0 : wr.cell? ⟨w.heap.size, 0, none⟩ = some (.int .i64 0) := bR.cell 0
      have r1 : wr.cell? ⟨w.heap.size, 1, none⟩ = some (.slice none 0 0) := bR.cell 1
      have rf0 := bR.frozen 0
      have rf1 := bR.frozen 1
      have hT' := Lib.hid hT
      clear hT hlk hOv
      go_wp2
      have hY := ((ExtBut.setCell wr ⟨w.heap.size, 0, none⟩ (.int .i64 num)).mono (S' := fun b => b = w.heap.size) (fun x _ h => h)).trans ((ExtBut.setCell _ ⟨w.heap.size, 1, none⟩ (.slice av k cv)).mono (S' := fun b => b = w.heap.size) (fun x _ h => h))
      have hsz := hsz1.out
      refine bodyPost_ret (v := .tuple #[.agg #[.int .i64 num, .slice av k cv], .int .i64 0]) (by simp [results, Tryd.f35, go_sem, r0, r1]) rfl ⟨_, vs, rfl, OwnS.mono (B' := w.heap.size) (OwnS.but hT'.out hY (fun g e h => by omega)) (by omega), ExtBut.ext hF hY (fun x h => by omega)⟩

theorem newK_no {num size tag : Int} (h : (inB num && inB tag && decide (1 ≤ size) && decide (size ≤ 2)) = false) : newK num size tag = (Stk.zero, 2) := by simp [newK, h]
theorem newK_yes {num size tag : Int} (h : (inB num && inB tag && decide (1 ≤ size) && decide (size ≤ 2)) = true) : newK num size tag = (⟨num, based size.toNat tag⟩, 0) := by
  have ht : inB tag = true := by
    simp only [Bool.and_eq_true] at h
    exact h.1.1.2
  unfold newK
  rw [if_pos h]
  simp [based, baseOf, ht]

set_option maxHeartbeats 1600000 in
theorem stacks_New (num size tag : Int) (w : World) : Calls Tryd.prog 35 #[.int .i64 num, .int .i64 size, .int .i64 tag] w (RetK w (newK num size tag).1 (newK num size tag).2) := by
  cases hc : inB num && inB tag && decide (1 ≤ size) && decide (size ≤ 2)
  · have hres := Lib.hid (newK_no hc)
    have bR := Box.new w 56 #[.int .i64 0, .slice none 0 0]
    have hE0 : Ext w (w.alloc (.cells #[.int .i64 0, .slice none 0 0] 56)) := (Ext.refl _).alloc _
    have hcase : decide (num < 0) = true ∨ (decide (num < 0) = false ∧ (decide (1000000 < num) = true ∨ (decide (1000000 < num) = false ∧ (decide (size < 1) = true ∨ (decide (size < 1) = false ∧ (decide (2 < size) = true ∨ (decide (2 < size) = false ∧ (size = 1 ∨ size = 2) ∧ inB tag = false))))))) := by
      unfold inB at hc ⊢
      simp only [Bool.and_eq_false_iff, decide_eq_true_eq, decide_eq_false_iff_not] at hc ⊢
      omega
    clear hc
    rcases hcase with q1 | ⟨q1, q2 | ⟨q2, q3 | ⟨q3, q4 | ⟨q4, q5, q6⟩⟩⟩⟩
    iterate 4
      · have b0 : (w.alloc (.cells #[.int .i64 0, .slice none 0 0] 56)).cell? ⟨w.heap.size, 0, none⟩ = some (.int .i64 0) := bR.cell 0
        have b1 : (w.alloc (.cells #[.int .i64 0, .slice none 0 0] 56)).cell? ⟨w.heap.size, 1, none⟩ = some (.slice none 0 0) := bR.cell 1
        have f0 := bR.frozen 0
        have f1 := bR.frozen 1
        clear bR
        go_enter Tryd.func35, Tryd.ntmps35
        go_wp2
        rw [hres.out]
        refine bodyPost_ret (v := .tuple #[.agg #[.int .i64 0, .slice none 0 0], .int .i64 2]) (by simp [results, Tryd.f35, go_sem, b0, b1]) rfl ⟨_, [], rfl, OwnS.nil _ _, ?_⟩
        first | exact hE0 | exact (hE0.setCell (by simp) _).setCell (by simp) _
    have hbe : Hid (baseErr tag = 2) := Hid.mk (by simp [baseErr, q6])
    clear q6
    rcases q5 with rfl | rfl
    all_goals
      have bO := Box.new (w.alloc (.cells #[.int .i64 0, .slice none 0 0] 56)) 56 #[.int .i64 num, .slice none 0 0]
      have bR2 := bR.ext ((Ext.refl _).alloc (.cells #[.int .i64 num, .slice none 0 0] 56))
      have hE1 := hE0.alloc (.cells #[.int .i64 num, .slice none 0 0] 56)
      clear bR bO
      go_enter Tryd.func35, Tryd.ntmps35
      go_wp2
      obtain ⟨w1, hw1⟩ : ∃ w1, (w.alloc (.cells #[.int .i64 0, .slice none 0 0] 56)).alloc (.cells #[.int .i64 num, .slice none 0 0] 56) = w1 := ⟨_, rfl⟩
      rw [hw1] at hE1 bR2 ⊢
      clear hw1
      go_loopw [29] (fun iv wr => iv = .int .i64 0 ∧ wr = w1) (fun _ _ => 0)
      case atStart => exact ⟨rfl, rfl⟩
      case round =>
        obtain ⟨rfl, rfl⟩ := hrel
        go_wp2_with fail
        refine (items_Base tag _).mono ?_
        rintro e w4 ⟨sn, rfl, hOn, hE4⟩
        rw [hbe.out]
        obtain ⟨an, cn, rfl, -⟩ := (Own.sl hOn).slice_form
        have bR4 := bR2.ext hE4
        have b0 : w4.cell? ⟨w.heap.size, 0, none⟩ = some (.int .i64 0) := bR4.cell 0
        have b1 : w4.cell? ⟨w.heap.size, 1, none⟩ = some (.slice none 0 0) := bR4.cell 1
        have f0 := bR4.frozen 0
        have f1 := bR4.frozen 1
        have hF4 := hE1.trans hE4
        clear bR4 hOn
        go_wp2
        rw [hres.out]
        refine bodyPost_ret (v := .tuple #[.agg #[.int .i64 0, .slice none 0 0], .int .i64 2]) (by simp [results, Tryd.f35, go_sem, b0, b1]) rfl ⟨_, [], rfl, OwnS.nil _ _, ?_⟩
        first | exact hF4 | exact (hF4.setCell (by simp) _).setCell (by simp) _
  · rw [newK_yes hc]
    simp only [Bool.and_eq_true, decide_eq_true_eq, inB] at hc
    exact stacks_New_go num size tag w ⟨hc.1.1.1.1, hc.1.1.1.2⟩ ⟨hc.1.2, hc.2⟩ (by simp [inB, hc.1.1.2.1, hc.1.1.2.2])


end Go.Proofs.YtjfkfibhgilolaaDoor

/- Contracts: Twin of the reference of layer 33. (printed by gen/stk33.py) -/
namespace Go.Proofs.YtjfkfibhgilolaaDoor
set_option maxRecDepth 100000
open Go.RowKit


end Go.Proofs.YtjfkfibhgilolaaDoor

/- Contracts: the helpers of the statements of layer 31 that use layer 30. (printed by gen/law31b.py) -/
namespace Go.Proofs.YtjfkfibhgilolaaDoor
set_option maxRecDepth 100000
open Go.RowKit

def ex31 : List Item := [⟨1, 1, 0⟩, ⟨1, 2, 5⟩]
theorem ex31_a : useR ex31 1 true [5] = ([], 2, 0) := by decide
theorem ex31_b : useR ex31 1 true [4] = ([⟨1, 1, 0⟩], 0, 0) := by decide
/-- A literal slice of numbers reads as its numbers. -/
theorem Nts.litl (w : World) (cs : Array Value) (l : List Int) (n b : Nat) (hb : w.heap.size = b) (hn : l.length = n) (hm : n ≤ maxLen) (hc : cs.toList = l.flatMap irow) : Nts (w.alloc (.cells cs 3)) (.slice (some ⟨b, 0, none⟩) n n) l := by
  subst hn hb
  have hs : cs.size = l.length * 1 := by
    have := congrArg List.length hc
    rw [rows_len irow irow_len] at this
    simpa using this
  have := (Own.lit (B := 0) (e := 3) (k := 1) w cs l.length (Nat.zero_le _) hm hs).sl
  rw [hc] at this
  exact this

set_option maxHeartbeats 400000 in
theorem law31_example (w : World) : Calls Tryd.prog 26 #[] w (RetL 23 w ex31) := by
  have hO := Own.lit (B := w.heap.size) (e := 23) (k := 3) w #[.int .u8 1, .int .i64 1, .int .i64 0, .int .u8 1, .int .i64 2, .int .i64 5] 2 (Nat.le_refl _) (by simp [maxLen]) rfl
  go_enter Tryd.func26, Tryd.ntmps26
  go_wp2
  go_ret
  exact ⟨_, rfl, hO, (Ext.refl _).alloc _⟩

set_option maxHeartbeats 1600000 in
set_option maxRecDepth 100000 in
theorem law31_aliveO (w : World) : Calls Tryd.prog 27 #[] w fun e w' => e = .returned (.bool true) ∧ Ext w w' := by
  go_enter Tryd.func27, Tryd.ntmps27
  go_wp2_with fail
  refine (law31_example _).mono ?_
  rintro e w1 ⟨vx, rfl, hvx, hE1⟩
  have hX : Its w1 vx ex31 := hvx.sl
  clear hvx
  obtain ⟨a1, c1, rfl, -⟩ := hX.form
  go_wp2_with fail
  have hx1 : Ext w1 (w1.alloc (.cells #[.int .i64 5] 3)) := (Ext.refl _).alloc _
  refine (guard_WriteO (run := [5]) 1 (hX.ext hx1) (Nts.litl _ _ _ _ _ rfl rfl (by simp [maxLen]) rfl)).mono ?_
  rintro e w2 ⟨va, rfl, hva, hE2⟩
  have hF2 := (hE1.trans hx1).trans hE2
  rw [ex31_a] at hva
  rw [ex31_a]
  obtain ⟨a2, c2, rfl, -⟩ := hva.its.form
  replace hva := hva.its; clear hva hX
  dsimp only [List.length_nil]
  go_wp2_with fail
  refine (law31_example _).mono ?_
  rintro e w3 ⟨vy, rfl, hvy, hE3⟩
  have hF3 := hF2.trans hE3
  have hY : Its w3 vy ex31 := hvy.sl
  clear hvy
  obtain ⟨a3, c3, rfl, -⟩ := hY.form
  go_wp2_with fail
  have hx3 : Ext w3 (w3.alloc (.cells #[.int .i64 4] 3)) := (Ext.refl _).alloc _
  refine (guard_WriteO (run := [4]) 1 (hY.ext hx3) (Nts.litl _ _ _ _ _ rfl rfl (by simp [maxLen]) rfl)).mono ?_
  rintro e w4 ⟨vb, rfl, hvb, hE4⟩
  have hF4 := (hF3.trans hx3).trans hE4
  rw [ex31_b] at hvb
  rw [ex31_b]
  replace hvb := hvb.its; obtain ⟨a4, c4, rfl, -⟩ := hvb.form
  clear hY
  dsimp only
  go_wp2_with fail
  refine (law31_example _).mono ?_
  rintro e w5 ⟨vz, rfl, hvz, hE5⟩
  have hF5 := hF4.trans hE5
  have hZ : Its w5 vz ex31 := hvz.sl
  clear hvz
  obtain ⟨a5, c5, rfl, hc5, -⟩ := hZ.form
  have hz1 := hZ.take 1 (by decide)
  have hc6 : 1 ≤ c5 := Nat.le_trans (by decide) hc5
  have hs1 := slice_upto_Stack a5 ex31 c5 1 1 rfl hc6
  go_wp2_with fail
  refine (ref28_Same_yes (hvb.ext hE5) hz1).mono ?_
  rintro e w6 ⟨rfl, hE6⟩
  go_wp2
  go_ret
  exact ⟨rfl, hF5.trans hE6⟩


/-- An access by its number: 0 reads, 5 writes, each other one retags with this kind, an item of the tag 9. -/
def doR (l : List Item) (what tag : Int) (run : List Int) : List Item × Int × Int := if what = 0 then useR l tag false run else if what = 5 then useR l tag true run else tagR l what tag ⟨0, 9, 0⟩ run


end Go.Proofs.YtjfkfibhgilolaaDoor

/- Plain laws of layer 31: fewer calls, none; what is held stays. No program in sight. -/
namespace Go.Proofs.YtjfkfibhgilolaaDoor
set_option maxRecDepth 100000
open Go.RowKit

/-- What the unguarded access gives: the stack, what goes, why not, the error. -/
def baseR (l : List Item) (k tag : Int) : List Item × List Item × Int × Int :=
  if k = 0 then (accL l tag false, accG l tag false, accW l tag false, chk l) else if k = 5 then (accL l tag true, accG l tag true, accW l tag true, chk l) else retagR l k tag ⟨0, 9, 0⟩
theorem doR_base (l : List Item) (k tag : Int) (run : List Int) : doR l k tag run = if okR run then toldR' (baseR l k tag).1 (baseR l k tag).2.1 (baseR l k tag).2.2.1 (baseR l k tag).2.2.2 run else ([], 0, 8) := by
  unfold doR baseR useR tagR
  by_cases h0 : k = 0
  · rw [if_pos h0, if_pos h0]
  · rw [if_neg h0, if_neg h0]
    by_cases h5 : k = 5
    · rw [if_pos h5, if_pos h5]
    · rw [if_neg h5, if_neg h5]

theorem firstR_isSome (G : List Item) (run : List Int) : (firstR G run).isSome = G.any (heldBy run) := by
  unfold firstR
  induction G with
  | nil => rfl
  | cons x G ih =>
    rw [List.findIdx?_cons, List.any_cons]
    cases heldBy run x
    · simp only [Bool.false_or]
      rw [← ih]
      simp
    · simp

theorem okFrom_weak {a b : Int} {l : List Int} (h : okFrom b l = true) (hab : a ≤ b) : okFrom a l = true := by
  cases l with
  | nil => rfl
  | cons x l =>
    simp only [okFrom, Bool.and_eq_true, decide_eq_true_eq] at h ⊢
    exact ⟨⟨by omega, h.1.2⟩, h.2⟩
theorem okFrom_erase {last : Int} {l : List Int} (h : okFrom last l = true) (i : Nat) : okFrom last (l.take i ++ l.drop (i + 1)) = true := by
  induction l generalizing last i with
  | nil => simp [okFrom]
  | cons x l ih =>
    have h' := h
    simp only [okFrom, Bool.and_eq_true, decide_eq_true_eq] at h'
    cases i with
    | zero => simpa using okFrom_weak h'.2 (by omega)
    | succ i =>
      rw [List.take_succ_cons, List.drop_succ_cons, List.cons_append]
      simp only [okFrom, Bool.and_eq_true, decide_eq_true_eq]
      exact ⟨h'.1, ih h'.2 i⟩
theorem okR_erase {run : List Int} (h : okR run = true) {i : Nat} (hi : i < run.length) : okR (run.take i ++ run.drop (i + 1)) = true := by
  have h1 := okR_len h
  have h2 := okFrom_erase (okR_from h) i
  unfold okR
  rw [h2, Bool.and_true, decide_eq_true_eq, List.length_append, List.length_take, List.length_drop]
  omega
theorem held_fewer {run : List Int} {i : Nat} {G : List Item} (h : (firstR G (run.take i ++ run.drop (i + 1))).isSome = true) : (firstR G run).isSome = true := by
  rw [firstR_isSome] at h ⊢
  obtain ⟨x, hx, hh⟩ := List.any_eq_true.1 h
  refine List.any_eq_true.2 ⟨x, hx, ?_⟩
  unfold heldBy hasR at hh ⊢
  rw [List.contains_iff_mem] at hh ⊢
  rcases List.mem_append.1 hh with hh | hh
  · exact List.mem_of_mem_take hh
  · exact List.mem_of_mem_drop hh

theorem fewer_law {l : List Item} {k tag : Int} {run : List Int} (h : okR run = true) {i : Nat} (hi : i < run.length) {A B : List Item} {v e w f : Int} (hA : doR l k tag run = (A, v, e)) (hB : doR l k tag (run.take i ++ run.drop (i + 1)) = (B, w, f)) :
    f = e ∧ ((v = 2 ∧ e = 0) ∨ (B = A ∧ w = v)) := by
  rw [doR_base, if_pos h] at hA
  rw [doR_base, if_pos (okR_erase h hi)] at hB
  generalize baseR l k tag = b at hA hB
  obtain ⟨X, G, why, er⟩ := b
  simp only at hA hB
  by_cases hr : er = 0 ∧ why = 0 ∧ (firstR G run).isSome = true
  · rw [toldR'_yes hr] at hA
    simp only [Prod.mk.injEq] at hA
    obtain ⟨rfl, rfl, rfl⟩ := hA
    by_cases hr' : er = 0 ∧ why = 0 ∧ (firstR G (run.take i ++ run.drop (i + 1))).isSome = true
    · rw [toldR'_yes hr'] at hB
      simp only [Prod.mk.injEq] at hB
      exact ⟨hB.2.2.symm, .inl ⟨rfl, rfl⟩⟩
    · rw [toldR'_no hr'] at hB
      simp only [Prod.mk.injEq] at hB
      exact ⟨by rw [← hB.2.2, hr.1], .inl ⟨rfl, rfl⟩⟩
  · have hr' : ¬ (er = 0 ∧ why = 0 ∧ (firstR G (run.take i ++ run.drop (i + 1))).isSome = true) := fun h' => hr ⟨h'.1, h'.2.1, held_fewer h'.2.2⟩
    rw [toldR'_no hr] at hA
    rw [toldR'_no hr', hA] at hB
    simp only [Prod.mk.injEq] at hB
    exact ⟨hB.2.2.symm, .inr ⟨hB.1.symm, hB.2.1.symm⟩⟩

theorem none_law {l : List Item} {k tag : Int} : doR l k tag [] = ((baseR l k tag).1, (baseR l k tag).2.2.1, (baseR l k tag).2.2.2) := by
  rw [doR_base, if_pos (by decide), toldR'_no]
  rw [firstR_isSome]
  rintro ⟨-, -, h⟩
  obtain ⟨x, -, hh⟩ := List.any_eq_true.1 h
  simp [heldBy, hasR] at hh

theorem slice_from_Ints (a : Option Addr) (l : List Int) (cap : Nat) (x : Int) (k : Nat) (hx : x = k) (hk : k ≤ l.length) :
    ∃ b c, (∀ w, (Instr.slice 37 (.slice a l.length cap) (some (.int .i64 x)) none none).run Tryd.prog w = .ok (.slice b (l.length - k) c) w) ∧ ∀ w, Nts w (.slice a l.length cap) l → Nts w (.slice b (l.length - k) c) (l.drop k) := by
  obtain ⟨i, z, hi, hz, hi3, hz3, hby⟩ := Int.infoE
  refine ⟨_, _, fun w => run_slice_from Tryd.underlying37 hi a l.length cap x k hx hk w, fun w h => ?_⟩
  rw [hi3]
  have := Sl.drop h k hk
  rw [rows_drop irow irow_len] at this
  unfold Nts
  rw [List.length_drop]
  exact this

end Go.Proofs.YtjfkfibhgilolaaDoor

/- Contracts: the held items of layer 34: holds, free. (printed by gen/dea34.py) -/
namespace Go.Proofs.YtjfkfibhgilolaaDoor
set_option maxRecDepth 100000
open Go.RowKit

def freeB (l : List (List Item)) (run : List Int) : Bool := !(l.any fun s => s.any (heldBy run))
def keptL (l : List (List Item)) (run : List Int) : List Item := l.flatMap fun s => s.filter (heldBy run)

/-- The two facts that a search keeps: what stands left of i is less, what stands from j on is not. -/
theorem search_endC {l : List Int} {t : Int} (hs : okFrom 0 l = true) {i : Nat} (hlo : ∀ k x, k < i → l[k]? = some x → x < t) (hhi : ∀ k x, i ≤ k → l[k]? = some x → t ≤ x) : l.contains t = (l[i]? == some t) := by
  cases h : l.contains t
  · cases h2 : (l[i]? == some t)
    · rfl
    · have h3 : l[i]? = some t := by simpa using h2
      have := List.mem_of_getElem? h3
      have h4 : l.contains t = true := by simpa using this
      rw [h] at h4; cases h4
  · have hm : t ∈ l := by simpa using h
    obtain ⟨k, hk⟩ := List.mem_iff_getElem?.1 hm
    rcases Nat.lt_trichotomy k i with h1 | h1 | h1
    · have := hlo k t h1 hk; omega
    · subst h1; simp [hk]
    · have hlt : i < l.length := by have := (List.getElem?_eq_some_iff.1 hk).1; omega
      have h5 : l[i]? = some l[i] := by simp [hlt]
      have := hhi i _ (Nat.le_refl _) h5
      have := okFrom_lt hs h1 h5 hk
      omega

set_option maxHeartbeats 1600000 in
theorem binarySearchC {l : List Int} {v : Value} {w : World} (t : Int) (hl : Nts w v l) (hs : okFrom 0 l = true) (hlen : l.length ≤ 1000) :
    Calls Tryd.prog 89 #[v, .int .i64 t] w (RetIB (hasR l t) w) := by
  obtain ⟨a, cp, rfl, hlc, hcm, -⟩ := hl.form
  unfold maxLen at hcm
  have hL := Lib.hid hl
  have hS := Lib.hid hs
  clear hl hs
  go_enter Tryd.func89, Tryd.ntmps89
  go_wp2
  go_loop [7, 8] (fun iv jv => ∃ i j : Nat, i ≤ j ∧ j ≤ l.length ∧ iv = .int .i64 i ∧ jv = .int .i64 j ∧ Hid ((∀ k x, k < i → l[k]? = some x → x < t) ∧ (∀ k x, j ≤ k → l[k]? = some x → t ≤ x))) (fun iv jv => (intOf jv).toNat - (intOf iv).toNat)
  case atStart => exact ⟨0, l.length, Nat.zero_le _, Nat.le_refl _, rfl, rfl, ⟨fun k x h => by omega, fun k x h hx => by rw [List.getElem?_eq_none h] at hx; cases hx⟩⟩
  case round =>
    obtain ⟨i, j, hij, hj, rfl, rfl, hN⟩ := hrel
    by_cases hlt : i < j
    · obtain ⟨x, hx⟩ : ∃ x, l[(i + j) / 2]? = some x := ⟨l[(i + j) / 2]'(by omega), by simp⟩
      obtain ⟨b, off, rfl, hb, c0⟩ := hL.out.cell hx
      have hi0 : (0 : Int) ≤ ((i : Int) + (j : Int)) / 2 := by omega
      have hi1 : ((i : Int) + (j : Int)) / 2 < (l.length : Int) := by omega
      have hmid : Hid (i ≤ (i + j) / 2 ∧ (i + j) / 2 < j) := Hid.mk (by omega)
      by_cases hxt : x < t
      · have hq : Hid (decide (x < t) = true) := Hid.mk (decide_eq_true hxt)
        have hR : Hid ((∀ k y, k < (i + j) / 2 + 1 → l[k]? = some y → y < t) ∧ (∀ k y, j ≤ k → l[k]? = some y → t ≤ y)) := Hid.mk ⟨fun k y hk hy => by
          rcases Nat.lt_or_eq_of_le (Nat.lt_succ_iff.1 hk) with h1 | h1
          · have := okFrom_lt hS.out h1 hy hx; omega
          · subst h1; rw [hx] at hy; cases hy; exact hxt, hN.out.2⟩
        clear hx hxt
        go_wp2_with fail
        refine (cmp_Less _ _ _).mono ?_
        rintro e w' ⟨rfl, rfl⟩
        rw [hq.out]
        go_wp2
        go_round
        case rel => exact ⟨(i + j) / 2 + 1, j, by have := hmid.out; omega, hj, by congr 1, rfl, hR.out⟩
        case measure => have := hmid.out; simp [intOf]; omega
      · have hq : Hid (decide (x < t) = false) := Hid.mk (decide_eq_false hxt)
        have hR : Hid ((∀ k y, k < i → l[k]? = some y → y < t) ∧ (∀ k y, (i + j) / 2 ≤ k → l[k]? = some y → t ≤ y)) := Hid.mk ⟨hN.out.1, fun k y hk hy => by
          rcases Nat.lt_or_eq_of_le hk with h1 | h1
          · have := okFrom_lt hS.out h1 hx hy; omega
          · subst h1; rw [hx] at hy; cases hy; omega⟩
        clear hx hxt
        go_wp2_with fail
        refine (cmp_Less _ _ _).mono ?_
        rintro e w' ⟨rfl, rfl⟩
        rw [hq.out]
        go_wp2
        go_round
        case rel => exact ⟨i, (i + j) / 2, by have := hmid.out; omega, by have := hmid.out; omega, rfl, by congr 1, hR.out⟩
        case measure => have := hmid.out; simp [intOf]; omega
    · obtain rfl : i = j := by omega
      have hend := search_endC hS.out hN.out.1 hN.out.2
      by_cases hil : i < l.length
      · obtain ⟨x, hx⟩ : ∃ x, l[i]? = some x := ⟨l[i], by simp [hil]⟩
        obtain ⟨b, off, rfl, hb, c0⟩ := hL.out.cell hx
        have hi0 : (0 : Int) ≤ (i : Int) := by omega
        have hi1 : (i : Int) < (l.length : Int) := by omega
        have hd : decide ((i : Int) < (l.length : Int)) = true := decide_eq_true (by omega)
        rw [hx] at hend
        have hend' : Hid (hasR l t = (x == t)) := Hid.mk (by rw [hasR, hend]; rfl)
        clear hx hend
        cases hxt : x == t
        · rw [hxt] at hend'
          go_wp2_with (go_at_call 94; refine (slices_isNaN _ _).mono ?_; rintro e w' ⟨rfl, rfl⟩)
          go_ret2
          exact ⟨_, by rw [hend'.out]; rfl, rfl⟩
        · rw [hxt] at hend'
          go_wp2_with (go_at_call 94; refine (slices_isNaN _ _).mono ?_; rintro e w' ⟨rfl, rfl⟩)
          go_ret2
          exact ⟨_, by rw [hend'.out]; rfl, rfl⟩
      · have hd : decide ((i : Int) < (l.length : Int)) = false := decide_eq_false (by omega)
        rw [List.getElem?_eq_none (by omega)] at hend
        have hend' : Hid (hasR l t = false) := Hid.mk (by rw [hasR, hend]; rfl)
        clear hend
        go_wp2
        go_ret2
        exact ⟨_, by rw [hend'.out]; rfl, rfl⟩

theorem callFunc_holds (args : Array Value) (w : World) : (callFunc 77 args).run Tryd.prog w = .ok (.enter 77 args) w := by kernel_rfl

set_option maxHeartbeats 400000 in
theorem dealloc_holds {run : List Int} {v : Value} {w : World} (x : Item) (hl : Nts w v run) (hok : okR run = true) :
    Calls Tryd.prog 77 #[v, x.val] w fun e w' => e = .returned (.bool (heldBy run x)) ∧ Ext w w' := by
  obtain ⟨p, t, c⟩ := x
  have hE := (Ext.refl w).alloc (.cells #[.int .u8 p, .int .i64 t, .int .i64 c] 23)
  have hBS := Lib.hid (binarySearchC c (hl.ext hE) (okR_from hok) (by have := okR_len hok; omega))
  obtain ⟨a, cp, rfl, -⟩ := hl.form
  clear hl hok
  unfold Item.val
  go_enter Tryd.func77, Tryd.ntmps77
  go_wp2_with fail
  refine hBS.out.mono ?_
  rintro e w1 ⟨i, rfl, rfl⟩
  go_wp2
  go_ret
  exact ⟨rfl, hE⟩

set_option maxHeartbeats 1600000 in
theorem dealloc_free {l : List (List Item)} {run : List Int} {num : Int} {s v : Value} {w : World} (hl : Sts w s l) (hr : Nts w v run) (hok : okR run = true) :
    Calls Tryd.prog 73 #[.agg #[.int .i64 num, s], v] w fun e w' => e = .returned (.bool (freeB l run)) ∧ Ext w w' := by
  have hE0 := (Ext.refl w).alloc (.cells #[.int .i64 num, s] 56)
  have hl0 := hl.ext hE0
  have hr0 := hr.ext hE0
  obtain ⟨a, cp, rfl, hlc, hcm, -⟩ := hl.form
  obtain ⟨a2, cp2, rfl, -⟩ := hr.form
  unfold maxLen at hcm
  have hW := Lib.hid hl0
  have hR := Lib.hid hr0
  replace hok := Lib.hid hok
  clear hl hl0 hr hr0
  go_enter Tryd.func73, Tryd.ntmps73
  go_wp2
  go_step3
  go_wp2
  go_step3
  go_wp2
  obtain ⟨w1, hw1⟩ : ∃ w1, w.alloc (.cells #[.int .i64 num, .slice a l.length cp] 56) = w1 := ⟨_, rfl⟩
  rw [hw1] at hE0 hW hR ⊢
  clear hw1
  go_loopw [6, 16] (fun ov iv wr => ∃ k : Nat, k ≤ l.length ∧ iv = .int .i64 k ∧ ov = .bool true ∧ Ext w1 wr ∧ Hid ((l.take k).any (fun s => s.any (heldBy run)) = false)) (fun _ iv _ => l.length - (intOf iv).toNat)
  case atStart => exact ⟨0, Nat.zero_le _, rfl, rfl, Ext.refl _, by simp [Hid]⟩
  case round =>
    obtain ⟨k, hk, rfl, rfl, hE, hN⟩ := hrel
    by_cases hlt : k < l.length
    · obtain ⟨x, hx⟩ : ∃ x, l[k]? = some x := ⟨l[k], by simp [hlt]⟩
      obtain ⟨b, off, sv, rfl, hbb, d0, hcl⟩ := (hW.out.ext hE).cell hx
      have hX := Lib.hid hx
      obtain ⟨ca, ccp, rfl, hclc, hccm, -⟩ := hcl.form
      unfold maxLen at hccm
      have hC := Lib.hid hcl
      clear hx hbb hcl
      go_wp2
      obtain ⟨w2, hw2⟩ : ∃ w2, wr = w2 := ⟨_, rfl⟩
      have hE2 : Ext w1 w2 := hw2 ▸ hE
      have hC2 : Hid (Its w2 (.slice ca x.length ccp) x) := hw2 ▸ hC
      rw [hw2]
      clear hw2 hC
      go_loopw [6, 22] (fun ov jv wq => ∃ j : Nat, j ≤ x.length ∧ jv = .int .i64 j ∧ ov = .bool true ∧ Ext w2 wq ∧ Hid ((x.take j).any (heldBy run) = false)) (fun _ jv _ => x.length - (intOf jv).toNat)
      case atStart => exact ⟨0, Nat.zero_le _, rfl, rfl, Ext.refl _, by simp [Hid]⟩
      case round =>
        obtain ⟨j, hj, rfl, rfl, hY, hM⟩ := hrel
        by_cases hjl : j < x.length
        · obtain ⟨y, hy⟩ : ∃ y, x[j]? = some y := ⟨x[j], by simp [hjl]⟩
          obtain ⟨b2, off2, rfl, hbb2, c0, c1, c2⟩ := (hC2.out.ext hY).cell hy
          have hYl := Lib.hid hy
          obtain ⟨yp, yt, yc⟩ := y
          have hEa := (Ext.refl wr).alloc (.cells #[.int .u8 yp, .int .i64 yt, .int .i64 yc] 23)
          clear hy hbb2
          cases hh : heldBy run ⟨yp, yt, yc⟩
          · have hh' := Lib.hid hh
            have hM2 := Lib.hid (sany_take_succ hM.out hYl.out hh)
            clear hh
            go_wp2_with fail
            refine (dealloc_holds ⟨yp, yt, yc⟩ (((hR.out.ext hE2).ext hY).ext hEa) hok.out).mono ?_
            rintro e w4 ⟨rfl, hE4⟩
            rw [hh'.out]
            go_wp2
            go_roundw
            case rel => exact ⟨j + 1, by omega, by go_num, rfl, (hY.trans hEa).trans hE4, hM2.out⟩
            case measure => simp [intOf]; omega
          · have hh' := Lib.hid hh
            have hres : Hid (freeB l run = false) := Hid.mk (by unfold freeB; rw [sany_hit hX.out (sany_hit hYl.out hh)]; rfl)
            clear hh
            go_wp2_with fail
            refine (dealloc_holds ⟨yp, yt, yc⟩ (((hR.out.ext hE2).ext hY).ext hEa) hok.out).mono ?_
            rintro e w4 ⟨rfl, hE4⟩
            rw [hh'.out]
            go_wp2
            (try rw [Exit.noGoto_ret])
            go_ret
            exact ⟨by rw [hres.out] <;> rfl, (((hE0.trans hE2).trans hY).trans hEa).trans hE4⟩
        · have hje : j = x.length := by omega
          subst hje
          have hN2 := Lib.hid (sany_take_succ (p := fun s : List Item => s.any (heldBy run)) hN.out hX.out (by have := hM.out; rwa [List.take_length] at this))
          go_wp2
          go_roundw
          case rel => exact ⟨k + 1, by omega, by go_num, rfl, hE2.trans hY, hN2.out⟩
          case measure => simp [intOf]; omega
    · have hkl : k = l.length := by omega
      subst hkl
      have hres : Hid (freeB l run = true) := Hid.mk (by
        unfold freeB
        have := hN.out
        rw [List.take_length] at this
        rw [this]; rfl)
      go_wp2
      (try rw [Exit.noGoto_ret])
      go_ret
      exact ⟨by rw [hres.out] <;> rfl, hE0.trans hE⟩

end Go.Proofs.YtjfkfibhgilolaaDoor

/- Contracts: Protects, End, All of layer 34, the program's and the reference's. (printed by gen/dea34.py) -/
namespace Go.Proofs.YtjfkfibhgilolaaDoor
set_option maxRecDepth 100000
open Go.RowKit

def askErr (x : Stk) (run : List Int) : Int := if okR run then stkErr x else 8
def protR (x : Stk) (run : List Int) : List Item × Int := if askErr x run = 0 then (keptL x.cells run, 0) else ([], askErr x run)
def endR34 (x : Stk) (run : List Int) : Int × Int := if askErr x run = 0 then (if freeB x.cells run then 0 else 2, 0) else (0, askErr x run)
theorem askErr_cases (x : Stk) (run : List Int) : askErr x run = 8 ∨ (askErr x run = 0 ∧ okR run = true ∧ okK x = true) := by
  unfold askErr
  cases h : okR run
  · exact .inl (by simp)
  · cases hk : okK x
    · exact .inl (by simp [stkErr_bad hk])
    · exact .inr ⟨by simp [stkErr_ok hk], rfl, rfl⟩
theorem okK_small {x : Stk} (h : okK x = true) : x.cells.length ≤ 2 ∧ ∀ s ∈ x.cells, s.length ≤ 600 := by
  unfold okK at h
  simp only [Bool.and_eq_true, decide_eq_true_eq] at h
  refine ⟨h.1.2, fun s hs => ?_⟩
  have := List.all_eq_true.1 h.2 s hs
  unfold okS at this
  simp only [Bool.and_eq_true, decide_eq_true_eq] at this
  exact this.1
theorem kept_succ {l : List (List Item)} {run : List Int} {k : Nat} {x : List Item} (hx : l[k]? = some x) : keptL (l.take (k + 1)) run = keptL (l.take k) run ++ x.filter (heldBy run) := by
  rw [List.take_add_one, hx]
  simp [keptL]
theorem kept_len {l : List (List Item)} {run : List Int} (h : ∀ s ∈ l, s.length ≤ 600) : ∀ k : Nat, (keptL (l.take k) run).length ≤ 600 * k
  | 0 => by simp [keptL]
  | k + 1 => by
    have ih := kept_len (run := run) h k
    cases hx : l[k]? with
    | none =>
      rw [List.take_of_length_le (by have := List.getElem?_eq_none_iff.1 hx; omega), ← List.take_of_length_le (i := k) (List.getElem?_eq_none_iff.1 hx)]
      omega
    | some x =>
      rw [kept_succ hx, List.length_append]
      have h1 := h x (List.mem_of_getElem? hx)
      have h2 := List.length_filter_le (heldBy run) x
      omega
theorem filt_yes {n : List Item} {q : Item → Bool} {j : Nat} {y : Item} (hy : n[j]? = some y) (hq : q y = true) : (n.take (j + 1)).filter q = (n.take j).filter q ++ [y] := by
  rw [List.take_add_one, hy, List.filter_append]; simp [hq]
theorem filt_no {n : List Item} {q : Item → Bool} {j : Nat} {y : Item} (hy : n[j]? = some y) (hq : q y = false) : (n.take (j + 1)).filter q = (n.take j).filter q := by
  rw [List.take_add_one, hy, List.filter_append]; simp [hq]
theorem free_kept (l : List (List Item)) (run : List Int) : freeB l run = ((keptL l run).length == 0) := by
  unfold freeB keptL
  induction l with
  | nil => rfl
  | cons s l ih =>
    rw [List.any_cons, List.flatMap_cons, List.length_append, Bool.not_or, ih]
    have : (!s.any (heldBy run)) = ((s.filter (heldBy run)).length == 0) := by
      cases h : s.any (heldBy run)
      · have : s.filter (heldBy run) = [] := List.filter_eq_nil_iff.2 (fun x hx => by
          have := List.any_eq_false.1 h x hx; simpa using this)
        rw [this]; rfl
      · obtain ⟨x, hx, hh⟩ := List.any_eq_true.1 h
        have hm : x ∈ s.filter (heldBy run) := List.mem_filter.2 ⟨hx, hh⟩
        have : 0 < (s.filter (heldBy run)).length := List.length_pos_of_mem hm
        simp
        exact ⟨x, hx, hh⟩
    rw [this]
    cases h1 : (s.filter (heldBy run)).length == 0 <;> cases h2 : (l.flatMap fun s => s.filter (heldBy run)).length == 0 <;> simp_all

set_option maxHeartbeats 800000 in
theorem dealloc_asked {l : List (List Item)} {num : Int} {run : List Int} {s v : Value} {w : World} (hl : Sts w s l) (hr : Nts w v run) :
    Calls Tryd.prog 74 #[.agg #[.int .i64 num, s], v] w fun e w' => e = .returned (.int .i64 (askErr ⟨num, l⟩ run)) ∧ Ext w w' := by
  have hE0 := (Ext.refl w).alloc (.cells #[.int .i64 num, s] 56)
  have hl0 := hl.ext hE0
  have hr0 := hr.ext hE0
  obtain ⟨a, cp, rfl, -⟩ := hl.form
  obtain ⟨a2, cp2, rfl, -⟩ := hr.form
  have bM := Box.new w 56 #[.int .i64 num, .slice a l.length cp]
  clear hl hr
  cases hok : okR run
  · have h8 := Lib.hid (runErr_bad hok)
    have hres : Hid (askErr ⟨num, l⟩ run = 8) := Hid.mk (by simp [askErr, hok])
    clear hok
    go_enter Tryd.func74, Tryd.ntmps74
    go_wp2_with fail
    refine (guard_Check hr0).mono ?_
    rintro e w1 ⟨rfl, rfl⟩
    rw [h8.out]
    go_wp2
    go_ret
    exact ⟨by rw [hres.out] <;> rfl, hE0⟩
  · have h0 := Lib.hid (runErr_ok hok)
    have hres : Hid (askErr ⟨num, l⟩ run = stkErr ⟨num, l⟩) := Hid.mk (by simp [askErr, hok])
    clear hok
    go_enter Tryd.func74, Tryd.ntmps74
    go_wp2_with fail
    refine (guard_Check hr0).mono ?_
    rintro e w1 ⟨rfl, rfl⟩
    rw [h0.out]
    go_wp2_with fail
    refine (stacks_Check hl0).mono ?_
    rintro e w2 ⟨rfl, hE2⟩
    go_wp2
    go_ret
    exact ⟨by rw [hres.out] <;> rfl, hE0.trans hE2⟩



end Go.Proofs.YtjfkfibhgilolaaDoor

/- Contracts: Protects and End of layer 34, the program's and the reference's. (printed by gen/dea34.py) -/
namespace Go.Proofs.YtjfkfibhgilolaaDoor
set_option maxRecDepth 100000
open Go.RowKit

theorem protR_bad {x : Stk} {run : List Int} (h : askErr x run = 8) : protR x run = ([], 8) := by simp [protR, h]
theorem protR_ok {x : Stk} {run : List Int} (h : askErr x run = 0) : protR x run = (keptL x.cells run, 0) := by simp [protR, h]
theorem endR34_bad {x : Stk} {run : List Int} (h : askErr x run = 8) : endR34 x run = (0, 8) := by simp [endR34, h]
theorem endR34_ok {x : Stk} {run : List Int} (h : askErr x run = 0) : endR34 x run = (if freeB x.cells run then 0 else 2, 0) := by simp [endR34, h]

set_option maxHeartbeats 1600000 in
theorem dealloc_Protects {l : List (List Item)} {run : List Int} {num : Int} {s v : Value} {w : World} (hl : Sts w s l) (hr : Nts w v run) :
    Calls Tryd.prog 50 #[.agg #[.int .i64 num, s], v] w (RetLN 23 w (protR ⟨num, l⟩ run).1 (protR ⟨num, l⟩ run).2) := by
  have hE0 := (Ext.refl w).alloc (.cells #[.int .i64 num, s] 56)
  have hl0 := hl.ext hE0
  have hr0 := hr.ext hE0
  have bM := Box.new w 56 #[.int .i64 num, s]
  obtain ⟨a, cp, rfl, hlc, hcm, -⟩ := hl.form
  obtain ⟨a2, cp2, rfl, -⟩ := hr.form
  unfold maxLen at hcm
  have hL := Lib.hid hl0
  have hV := Lib.hid hr0
  clear hl hl0 hr hr0
  rcases askErr_cases ⟨num, l⟩ run with h8 | ⟨h0, hok, hkk⟩
  · have hres := Lib.hid (protR_bad h8)
    replace h8 := Lib.hid h8
    go_enter Tryd.func50, Tryd.ntmps50
    go_wp2_with fail
    refine (dealloc_asked hL.out hV.out).mono ?_
    rintro e w1 ⟨rfl, hE1⟩
    rw [h8.out]
    go_wp2
    go_ret2
    rw [hres.out]
    exact ⟨_, rfl, Own.nil _ _ _ _, hE0.trans hE1⟩
  · have hres := Lib.hid (protR_ok h0)
    have hsm : l.length ≤ 2 ∧ ∀ s ∈ l, s.length ≤ 600 := okK_small hkk
    replace h0 := Lib.hid h0
    replace hok := Lib.hid hok
    clear hkk
    go_enter Tryd.func50, Tryd.ntmps50
    go_wp2_with fail
    refine (dealloc_asked hL.out hV.out).mono ?_
    rintro e w1 ⟨rfl, hE1⟩
    rw [h0.out]
    replace bM := bM.ext hE1
    have m0 : World.cell? w1 ⟨w.heap.size, 0, none⟩ = some (.int .i64 num) := bM.cell 0
    have m1 : World.cell? w1 ⟨w.heap.size, 1, none⟩ = some (.slice a l.length cp) := bM.cell 1
    have hW := Lib.hid (hL.out.ext hE1)
    have hR := Lib.hid (hV.out.ext hE1)
    replace hE0 := hE0.trans hE1
    clear bM
    go_wp2
    go_loopw [8, 24] (fun ov iv wr => ∃ k : Nat, k ≤ l.length ∧ iv = .int .i64 k ∧ OwnI wr w1.heap.size ov (keptL (l.take k) run) ∧ Ext w1 wr) (fun _ iv _ => l.length - (intOf iv).toNat)
    case atStart => exact ⟨0, Nat.zero_le _, rfl, OwnI.nil _ _, Ext.refl _⟩
    case round =>
      obtain ⟨k, hk, rfl, hO, hE⟩ := hrel
      have hklen := kept_len (run := run) hsm.2 k
      by_cases hlt : k < l.length
      · obtain ⟨x, hx⟩ : ∃ x, l[k]? = some x := ⟨l[k], by simp [hlt]⟩
        have hx6 : x.length ≤ 600 := hsm.2 x (List.mem_of_getElem? hx)
        obtain ⟨b, off, sv, rfl, hbb, d1, hcl⟩ := hW.out.cell hx
        have d0 := hE.cell d1
        have hX := Lib.hid hx
        obtain ⟨ca, ccp, rfl, hclc, hccm, -⟩ := hcl.form
        unfold maxLen at hccm
        have hC := Lib.hid hcl
        clear hx hbb hcl
        go_wp2
        clear d0
        go_loopw [8, 30] (fun ov jv wq => ∃ j : Nat, j ≤ x.length ∧ jv = .int .i64 j ∧ OwnI wq w1.heap.size ov (keptL (l.take k) run ++ (x.take j).filter (heldBy run)) ∧ Ext w1 wq) (fun _ jv _ => x.length - (intOf jv).toNat)
        case atStart => exact ⟨0, Nat.zero_le _, rfl, by simpa using hO, hE⟩
        case round =>
          obtain ⟨j, hj, rfl, hQ, hY⟩ := hrel
          by_cases hjl : j < x.length
          · obtain ⟨y, hy⟩ : ∃ y, x[j]? = some y := ⟨x[j], by simp [hjl]⟩
            obtain ⟨b4, off4, rfl, hbb4, c0, c1, c2⟩ := (hC.out.ext hY).cell hy
            have hYl := Lib.hid hy
            obtain ⟨yp, yt, yc⟩ := y
            have hEa := (Ext.refl wr).alloc (.cells #[.int .u8 yp, .int .i64 yt, .int .i64 yc] 23)
            have hflen : ((x.take j).filter (heldBy run)).length ≤ 600 := by
              have h1 := List.length_filter_le (heldBy run) (x.take j)
              rw [List.length_take] at h1
              omega
            clear hy hbb4
            cases hh : heldBy run ⟨yp, yt, yc⟩
            · have hh' := Lib.hid hh
              have hM2 : Hid ((x.take (j + 1)).filter (heldBy run) = (x.take j).filter (heldBy run)) := Hid.mk (filt_no hYl.out hh)
              clear hh
              go_wp2_with fail
              refine (dealloc_holds ⟨yp, yt, yc⟩ ((hR.out.ext hY).ext hEa) hok.out).mono ?_
              rintro e w4 ⟨rfl, hE4⟩
              rw [hh'.out]
              go_wp2
              go_roundw
              case rel => exact ⟨j + 1, by omega, by go_num, by rw [hM2.out]; exact (hQ.ext hEa).ext hE4, (hY.trans hEa).trans hE4⟩
              case measure => simp [intOf]; omega
            · have hh' := Lib.hid hh
              have hM2 : Hid (keptL (l.take k) run ++ (x.take (j + 1)).filter (heldBy run) = (keptL (l.take k) run ++ (x.take j).filter (heldBy run)) ++ [⟨yp, yt, yc⟩]) := Hid.mk (by rw [filt_yes hYl.out hh, List.append_assoc])
              clear hh
              obtain ⟨KL, hKL⟩ : ∃ KL, keptL (l.take k) run ++ (x.take j).filter (heldBy run) = KL := ⟨_, rfl⟩
              rw [hKL] at hQ hM2
              have hKl : KL.length ≤ 10000 := by rw [← hKL, List.length_append]; omega
              clear hKL
              obtain ⟨qa, qc, rfl, -⟩ := hQ.its.form
              have hQ' := Lib.hid hQ
              clear hQ
              go_wp2_with fail
              refine (dealloc_holds ⟨yp, yt, yc⟩ ((hR.out.ext hY).ext hEa) hok.out).mono ?_
              rintro e w4 ⟨rfl, hE4⟩
              rw [hh'.out]
              have hWx : Ext wr w4 := hEa.trans hE4
              have bI := (Box.new wr 23 #[.int .u8 yp, .int .i64 yt, .int .i64 yc]).ext hE4
              have k0 : World.cell? w4 ⟨wr.heap.size, 0, none⟩ = some (.int .u8 yp) := bI.cell 0
              have k1 : World.cell? w4 ⟨wr.heap.size, 1, none⟩ = some (.int .i64 yt) := bI.cell 1
              have k2 : World.cell? w4 ⟨wr.heap.size, 2, none⟩ = some (.int .i64 yc) := bI.cell 2
              have hE6 : Ext wr (w4.alloc (.cells #[.int .u8 yp, .int .i64 yt, .int .i64 yc] 23)) := hWx.alloc _
              have hS6 : Sl (w4.alloc (.cells #[.int .u8 yp, .int .i64 yt, .int .i64 yc] 23)) 3 (.slice (some ⟨w4.heap.size, 0, none⟩) 1 1) 1 (Item.row ⟨yp, yt, yc⟩) := (Own.lit' (B := 0) (e := 23) (k := 3) w4 #[.int .u8 yp, .int .i64 yt, .int .i64 yc] 1 (Nat.zero_le _) (by simp [maxLen]) rfl).sl
              obtain ⟨ti, tz, hti, htz, hti3, htz3, htby⟩ := Item.infoE
              replace hti := Lib.hid hti; replace htz := Lib.hid htz; replace hti3 := Lib.hid hti3; replace htz3 := Lib.hid htz3; replace htby := Lib.hid htby
              have hS6' := Lib.hid hS6
              have hE6' := Lib.hid hE6
              clear hS6 hE6
              go_wp2_with (at_builtin; refine Hid.out ?_)
              refine Hid.mk ?_
              refine wpList_append_any rfl _ _ 30 30 rfl rfl rfl Tryd.underlying30 Tryd.underlying30 hti.out htz.out hti3.out htz3.out (Own.ext hQ'.out hE6'.out) hS6'.out (by simp [Item.row, Value.oneCell']) (by simp [maxLen]; omega) (by rw [htby.out]; omega) (Nat.le_trans hY.size hE6'.out.size) ?_
              intro v' w6 hOv hKv _ _
              have hOw : OwnI w6 w1.heap.size v' (KL ++ [⟨yp, yt, yc⟩]) := by
                unfold OwnI
                rw [List.length_append, List.flatMap_append]
                simpa using hOv
              have hX6 : Ext w1 w6 := ExtBut.ext (hY.trans hE6'.out) ((ExtBut.of_keeps hKv).mono (S' := fun b => w1.heap.size ≤ b) (fun b _ hb => (hQ'.out.lt _ hb).1)) (fun b hb => hb) |> fun h => h
              clear hOv hKv
              go_wp2
              go_roundw
              case rel => exact ⟨j + 1, by omega, by go_num, by rw [hM2.out]; exact hOw, hX6⟩
              case measure => simp [intOf]; omega
          · have hje : j = x.length := by omega
            subst hje
            have hN2 : Hid (keptL (l.take (k + 1)) run = keptL (l.take k) run ++ (x.take x.length).filter (heldBy run)) := Hid.mk (by rw [kept_succ hX.out, List.take_length])
            go_wp2
            go_roundw
            case rel => exact ⟨k + 1, by omega, by go_num, by rw [hN2.out]; exact hQ, hY⟩
            case measure => simp [intOf]; omega
      · have hkl : k = l.length := by omega
        subst hkl
        rw [List.take_length] at hO
        obtain ⟨fa, fc, rfl, -⟩ := hO.its.form
        go_wp2
        go_ret2
        rw [hres.out]
        exact ⟨_, rfl, OwnI.mono hO hE0.size, hE0.trans hE⟩


set_option maxHeartbeats 1600000 in
theorem dealloc_End {l : List (List Item)} {run : List Int} {num : Int} {s v : Value} {w : World} (hl : Sts w s l) (hr : Nts w v run) :
    Calls Tryd.prog 47 #[.agg #[.int .i64 num, s], v] w fun e w' => e = .returned (.tuple #[.int .u8 (endR34 ⟨num, l⟩ run).1, .int .i64 (endR34 ⟨num, l⟩ run).2]) ∧ Ext w w' := by
  have hE0 := (Ext.refl w).alloc (.cells #[.int .i64 num, s] 56)
  have hl0 := hl.ext hE0
  have hr0 := hr.ext hE0
  have bM := Box.new w 56 #[.int .i64 num, s]
  obtain ⟨a, cp, rfl, hlc, hcm, -⟩ := hl.form
  obtain ⟨a2, cp2, rfl, -⟩ := hr.form
  unfold maxLen at hcm
  have hL := Lib.hid hl0
  have hV := Lib.hid hr0
  clear hl hl0 hr hr0
  rcases askErr_cases ⟨num, l⟩ run with h8 | ⟨h0, hok, hkk⟩
  · have hres := Lib.hid (endR34_bad h8)
    replace h8 := Lib.hid h8
    go_enter Tryd.func47, Tryd.ntmps47
    go_wp2_with fail
    refine (dealloc_asked hL.out hV.out).mono ?_
    rintro e w1 ⟨rfl, hE1⟩
    rw [h8.out]
    go_wp2
    go_ret2
    exact ⟨by rw [hres.out] <;> rfl, hE0.trans hE1⟩
  · have hres := Lib.hid (endR34_ok h0)
    have hsm : l.length ≤ 2 ∧ ∀ s ∈ l, s.length ≤ 600 := okK_small hkk
    replace h0 := Lib.hid h0
    replace hok := Lib.hid hok
    clear hkk
    cases hf : freeB l run
    all_goals
      replace hf := Lib.hid hf
      go_enter Tryd.func47, Tryd.ntmps47
      go_wp2_with fail
      refine (dealloc_asked hL.out hV.out).mono ?_
      rintro e w1 ⟨rfl, hE1⟩
      rw [h0.out]
      replace bM := bM.ext hE1
      have m0 : World.cell? w1 ⟨w.heap.size, 0, none⟩ = some (.int .i64 num) := bM.cell 0
      have m1 : World.cell? w1 ⟨w.heap.size, 1, none⟩ = some (.slice a l.length cp) := bM.cell 1
      go_wp2_with fail
      refine (dealloc_free (hL.out.ext hE1) (hV.out.ext hE1) hok.out).mono ?_
      rintro e w2 ⟨rfl, hE2⟩
      rw [hf.out]
      go_wp2
      go_ret2
      exact ⟨by rw [hres.out, hf.out] <;> rfl, (hE0.trans hE1).trans hE2⟩


end Go.Proofs.YtjfkfibhgilolaaDoor
