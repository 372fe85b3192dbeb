/- Contracts: Great, Check and Same of the reference of layer 33, Check of the program. (printed by gen/stk33.py) -/
import Derived.Test.YtjfkfibhgilolaaDoorStkA
import Derived.LoopIn
import Derived.Deep.QuietTactic
import Derived.BigQuiet
import Derived.Deep.RegionHeld3
namespace Go.Proofs.YtjfkfibhgilolaaDoor
set_option maxRecDepth 100000
open Go.RowKit

set_option maxHeartbeats 800000 in
theorem ref33_Great {l : List (List Item)} {num : Int} {s : Value} {w : World} (hl : Sts w s l) :
    Calls Tryd.prog 42 #[.agg #[.int .i64 num, s]] w fun e w' => e = .returned (.bool (greatK l)) ∧ Ext w w' := by
  have hE0 := (Ext.refl w).alloc (.cells #[.int .i64 num, s] 56)
  have hl0 := hl.ext hE0
  obtain ⟨a, cp, rfl, hlc, hcm, -⟩ := hl.form
  unfold maxLen at hcm
  have hW := Lib.hid hl0
  clear hl hl0
  go_enter Tryd.func42, Tryd.ntmps42
  go_wp2
  obtain ⟨w1, hw1⟩ : ∃ w1, w.alloc (.cells #[.int .i64 num, .slice a l.length cp] 56) = w1 := ⟨_, rfl⟩
  have b2 : w1.cell? ⟨w.heap.size, 1, none⟩ = some (.slice a l.length cp) := by rw [← hw1]; simp
  rw [hw1] at hE0 hW ⊢
  clear hw1
  go_loop [3] (fun iv => ∃ k : Nat, k ≤ l.length ∧ k ≤ 5 ∧ iv = .int .i64 k ∧ Hid ((l.take k).any wideS = false)) (fun iv => l.length - (intOf iv).toNat)
  case atStart => exact ⟨0, Nat.zero_le _, by omega, rfl, by simp [Hid]⟩
  case round =>
    obtain ⟨k, hk, hk4, rfl, hN⟩ := hrel
    by_cases hlt : k < l.length
    · have hlt' : decide ((k : Int) < (l.length : Int)) = true := decide_eq_true (by omega)
      by_cases h4 : k ≤ 4
      · have h4' : decide ((k : Int) ≤ 4) = true := decide_eq_true (by omega)
        obtain ⟨x, hx⟩ : ∃ x, l[k]? = some x := ⟨l[k], by simp [hlt]⟩
        obtain ⟨b, off, sv, rfl, hbb, d0, hcl⟩ := hW.out.cell hx
        have hX := Lib.hid hx
        obtain ⟨ca, ccp, rfl, hclc, hccm, -⟩ := hcl.form
        clear hx hbb
        by_cases h5 : 610 < x.length
        · have h5' : Hid (decide (610 < x.length) = true) := Hid.mk (decide_eq_true (by omega))
          have hg := Lib.hid (greatK_hit hX.out h4 (by simp [wideS, h5]))
          clear h5
          go_wp2_with fail
          refine (ref28_Great hcl).mono ?_
          rintro e wx ⟨rfl, rfl⟩
          rw [h5'.out]
          go_wp2
          go_ret
          exact ⟨by rw [hg.out] <;> rfl, hE0⟩
        · have h5' : Hid (decide (610 < x.length) = false) := Hid.mk (decide_eq_false (by omega))
          have hN2 := Lib.hid (sany_take_succ hN.out hX.out (by simp [wideS, h5]))
          clear h5
          go_wp2_with fail
          refine (ref28_Great hcl).mono ?_
          rintro e wx ⟨rfl, rfl⟩
          rw [h5'.out]
          go_wp2
          go_round
          case rel => exact ⟨k + 1, by omega, by omega, by go_num, hN2.out⟩
          case measure => simp [intOf]; omega
      · have h4' : decide ((k : Int) ≤ 4) = false := decide_eq_false (by omega)
        have h6 : decide ((4 : Int) < (l.length : Int)) = true := decide_eq_true (by omega)
        have hg : Hid (greatK l = true) := Hid.mk (by rw [greatK, decide_eq_true (by omega : 4 < l.length), Bool.or_true])
        go_wp2
        go_ret
        exact ⟨by rw [hg.out] <;> rfl, hE0⟩
    · have hlt' : decide ((k : Int) < (l.length : Int)) = false := decide_eq_false (by omega)
      have hkl : k = l.length := by omega
      subst hkl
      by_cases h4 : 4 < l.length
      · have h6 : decide ((4 : Int) < (l.length : Int)) = true := decide_eq_true (by omega)
        have hg : Hid (greatK l = true) := Hid.mk (by rw [greatK, decide_eq_true h4, Bool.or_true])
        go_wp2
        go_ret
        exact ⟨by rw [hg.out] <;> rfl, hE0⟩
      · have h6 : decide ((4 : Int) < (l.length : Int)) = false := decide_eq_false (by omega)
        have hg : Hid (greatK l = false) := Hid.mk (by
          rw [greatK, decide_eq_false h4, Bool.or_false, List.take_of_length_le (by omega)]
          have := hN.out
          rwa [List.take_length] at this)
        go_wp2
        go_ret
        exact ⟨by rw [hg.out] <;> rfl, hE0⟩

theorem stkErr_bad {x : Stk} (h : okK x = false) : stkErr x = 8 := by simp [stkErr, h]
theorem stkErr_ok {x : Stk} (h : okK x = true) : stkErr x = 0 := by simp [stkErr, h]
theorem okK_cell {x : Stk} {k : Nat} {s : List Item} (hx : x.cells[k]? = some s) (hs : okS s = false) : okK x = false := by
  have : x.cells.all okS = false := all_miss hx hs
  simp [okK, this]

set_option maxHeartbeats 1600000 in
theorem stacks_Check {l : List (List Item)} {num : Int} {s : Value} {w : World} (hl : Sts w s l) :
    Calls Tryd.prog 39 #[.agg #[.int .i64 num, s]] w fun e w' => e = .returned (.int .i64 (stkErr ⟨num, l⟩)) ∧ Ext w w' := by
  have hE0 := (Ext.refl w).alloc (.cells #[.int .i64 num, s] 56)
  have hl0 := hl.ext hE0
  obtain ⟨a, cp, rfl, hlc, hcm, -⟩ := hl.form
  unfold maxLen at hcm
  have hW := Lib.hid hl0
  clear hl hl0
  have hcase : (okK ⟨num, l⟩ = false ∧ (decide (num < 0) = true ∨ (decide (num < 0) = false ∧ (decide (1000000 < num) = true ∨ (decide (1000000 < num) = false ∧ (((l.length : Int) == 0) = true ∨ (((l.length : Int) == 0) = false ∧ decide ((2 : Int) < (l.length : Int)) = true))))))) ∨ (decide (num < 0) = false ∧ decide (1000000 < num) = false ∧ ((l.length : Int) == 0) = false ∧ decide ((2 : Int) < (l.length : Int)) = false ∧ okK ⟨num, l⟩ = l.all okS) := by
    unfold okK inB
    simp only [decide_eq_true_eq, decide_eq_false_iff_not, beq_iff_eq, beq_eq_false_iff_ne]
    by_cases h : 0 ≤ num ∧ num ≤ 1000000 ∧ 1 ≤ l.length ∧ l.length ≤ 2
    · right
      refine ⟨by omega, by omega, by omega, by omega, ?_⟩
      simp [h.1, h.2.1, h.2.2.1, h.2.2.2]
    · left
      refine ⟨?_, by omega⟩
      by_cases h0 : 0 ≤ num
      · by_cases h1 : num ≤ 1000000
        · by_cases h2 : 1 ≤ l.length
          · have h3 : ¬ l.length ≤ 2 := fun h3 => h ⟨h0, h1, h2, h3⟩
            simp [h3]
          · simp [h2]
        · simp [h1]
      · simp [h0]
  rcases hcase with ⟨hbad, g1 | ⟨g1, g2 | ⟨g2, g3 | ⟨g3, g4⟩⟩⟩⟩ | ⟨g1, g2, g3, g4, hall⟩
  iterate 4
    · have hres := Lib.hid (stkErr_bad hbad)
      clear hbad
      go_enter Tryd.func39, Tryd.ntmps39
      go_wp2
      go_ret
      exact ⟨by rw [hres.out] <;> rfl, hE0⟩
  · have hall' := Lib.hid hall
    clear hall
    go_enter Tryd.func39, Tryd.ntmps39
    go_wp2
    obtain ⟨w1, hw1⟩ : ∃ w1, w.alloc (.cells #[.int .i64 num, .slice a l.length cp] 56) = w1 := ⟨_, rfl⟩
    have b2 : w1.cell? ⟨w.heap.size, 1, none⟩ = some (.slice a l.length cp) := by rw [← hw1]; simp
    rw [hw1] at hE0 hW ⊢
    clear hw1
    go_loopw [29] (fun iv wr => ∃ k : Nat, k ≤ l.length ∧ iv = .int .i64 k ∧ Ext w1 wr ∧ Hid ((l.take k).all okS = true)) (fun iv _ => l.length - (intOf iv).toNat)
    case atStart => exact ⟨0, Nat.zero_le _, rfl, Ext.refl _, by simp [Hid]⟩
    case round =>
      obtain ⟨k, hk, rfl, hE, hN⟩ := hrel
      have e2 := hE.cell b2
      by_cases hlt : k < l.length
      · obtain ⟨x, hx⟩ : ∃ x, l[k]? = some x := ⟨l[k], by simp [hlt]⟩
        obtain ⟨b, off, sv, rfl, hbb, d0, hcl⟩ := (hW.out.ext hE).cell hx
        have hX := Lib.hid hx
        obtain ⟨ca, ccp, rfl, -⟩ := hcl.form
        have hC := Lib.hid hcl
        clear hx hbb hcl
        cases hok : okS x
        · have hc : Hid (chk x = 8) := Hid.mk (by simp [chk, hok])
          have hres := Lib.hid (stkErr_bad (okK_cell (x := ⟨num, l⟩) hX.out hok))
          clear hok
          go_wp2_with fail
          refine (items_Check hC.out).mono ?_
          rintro e w2 ⟨rfl, hE2⟩
          rw [hc.out]
          go_wp2
          go_ret
          exact ⟨by rw [hres.out] <;> rfl, (hE0.trans hE).trans hE2⟩
        · have hc : Hid (chk x = 0) := Hid.mk (by simp [chk, hok])
          have hN2 := Lib.hid (all_take_succ hN.out hX.out hok)
          clear hok
          go_wp2_with fail
          refine (items_Check hC.out).mono ?_
          rintro e w2 ⟨rfl, hE2⟩
          rw [hc.out]
          go_wp2
          go_roundw
          case rel => exact ⟨k + 1, by omega, by go_num, hE.trans hE2, hN2.out⟩
          case measure => simp [intOf]; omega
      · have hkl : k = l.length := by omega
        subst hkl
        have hres : Hid (stkErr ⟨num, l⟩ = 0) := Hid.mk (stkErr_ok (by
          rw [hall'.out]
          have := hN.out
          rwa [List.take_length] at this))
        go_wp2
        go_ret
        exact ⟨by rw [hres.out] <;> rfl, hE0.trans hE⟩

set_option maxHeartbeats 1600000 in
theorem ref33_Check {l : List (List Item)} {num : Int} {s : Value} {w : World} (hl : Sts w s l) :
    Calls Tryd.prog 49 #[.agg #[.int .i64 num, s]] w fun e w' => e = .returned (.int .i64 (stkErr ⟨num, l⟩)) ∧ Ext w w' := by
  have hE0 := (Ext.refl w).alloc (.cells #[.int .i64 num, s] 56)
  have hl0 := hl.ext hE0
  obtain ⟨a, cp, rfl, hlc, hcm, -⟩ := hl.form
  unfold maxLen at hcm
  have hW := Lib.hid hl0
  clear hl hl0
  have hcase : (okK ⟨num, l⟩ = false ∧ (inB num = false ∨ (inB num = true ∧ (decide ((l.length : Int) < 1) = true ∨ (decide ((l.length : Int) < 1) = false ∧ decide ((2 : Int) < (l.length : Int)) = true))))) ∨ (inB num = true ∧ decide ((l.length : Int) < 1) = false ∧ decide ((2 : Int) < (l.length : Int)) = false ∧ okK ⟨num, l⟩ = l.all okS) := by
    unfold okK
    simp only [decide_eq_true_eq, decide_eq_false_iff_not]
    cases hn : inB num
    · left; simp
    · by_cases h : 1 ≤ l.length ∧ l.length ≤ 2
      · right
        refine ⟨rfl, by omega, by omega, ?_⟩
        simp [h.1, h.2]
      · left
        refine ⟨?_, .inr ⟨rfl, by omega⟩⟩
        by_cases h2 : 1 ≤ l.length
        · have h3 : ¬ l.length ≤ 2 := fun h3 => h ⟨h2, h3⟩
          simp [h3]
        · simp [h2]
  rcases hcase with ⟨hbad, g1 | ⟨g1, g2 | ⟨g2, g3⟩⟩⟩ | ⟨g1, g2, g3, hall⟩
  iterate 3
    · replace g1 := Lib.hid g1
      have hres := Lib.hid (stkErr_bad hbad)
      clear hbad
      go_enter Tryd.func49, Tryd.ntmps49
      go_wp2_with fail
      refine (ref28_In _ _).mono ?_
      rintro e wx ⟨rfl, rfl⟩
      rw [g1.out]
      go_wp2
      go_ret
      exact ⟨by rw [hres.out] <;> rfl, hE0⟩
  · replace g1 := Lib.hid g1
    have hall' := Lib.hid hall
    clear hall
    go_enter Tryd.func49, Tryd.ntmps49
    go_wp2_with fail
    refine (ref28_In _ _).mono ?_
    rintro e wx ⟨rfl, rfl⟩
    rw [g1.out]
    go_wp2
    obtain ⟨w1, hw1⟩ : ∃ w1, w.alloc (.cells #[.int .i64 num, .slice a l.length cp] 56) = w1 := ⟨_, rfl⟩
    have b2 : w1.cell? ⟨w.heap.size, 1, none⟩ = some (.slice a l.length cp) := by rw [← hw1]; simp
    rw [hw1] at hE0 hW ⊢
    clear hw1
    go_loopw [3] (fun iv wr => ∃ k : Nat, k ≤ l.length ∧ iv = .int .i64 k ∧ Ext w1 wr ∧ Hid ((l.take k).all okS = true)) (fun iv _ => l.length - (intOf iv).toNat)
    case atStart => exact ⟨0, Nat.zero_le _, rfl, Ext.refl _, by simp [Hid]⟩
    case round =>
      obtain ⟨k, hk, rfl, hE, hN⟩ := hrel
      have e2 := hE.cell b2
      by_cases hlt : k < l.length
      · obtain ⟨x, hx⟩ : ∃ x, l[k]? = some x := ⟨l[k], by simp [hlt]⟩
        obtain ⟨b, off, sv, rfl, hbb, d0, hcl⟩ := (hW.out.ext hE).cell hx
        have hX := Lib.hid hx
        obtain ⟨ca, ccp, rfl, -⟩ := hcl.form
        have hC := Lib.hid hcl
        clear hx hbb hcl
        cases hok : okS x
        · have hc : Hid (chk x = 8) := Hid.mk (by simp [chk, hok])
          have hres := Lib.hid (stkErr_bad (okK_cell (x := ⟨num, l⟩) hX.out hok))
          clear hok
          go_wp2_with fail
          refine (ref28_Check hC.out).mono ?_
          rintro e w2 ⟨rfl, hE2⟩
          rw [hc.out]
          go_wp2
          go_ret
          exact ⟨by rw [hres.out] <;> rfl, (hE0.trans hE).trans hE2⟩
        · have hc : Hid (chk x = 0) := Hid.mk (by simp [chk, hok])
          have hN2 := Lib.hid (all_take_succ hN.out hX.out hok)
          clear hok
          go_wp2_with fail
          refine (ref28_Check hC.out).mono ?_
          rintro e w2 ⟨rfl, hE2⟩
          rw [hc.out]
          go_wp2
          go_roundw
          case rel => exact ⟨k + 1, by omega, by go_num, hE.trans hE2, hN2.out⟩
          case measure => simp [intOf]; omega
      · have hkl : k = l.length := by omega
        subst hkl
        have hres : Hid (stkErr ⟨num, l⟩ = 0) := Hid.mk (stkErr_ok (by
          rw [hall'.out]
          have := hN.out
          rwa [List.take_length] at this))
        go_wp2
        go_ret
        exact ⟨by rw [hres.out] <;> rfl, hE0.trans hE⟩

set_option maxHeartbeats 800000 in
theorem ref33_Same {l : List (List Item)} {num : Int} {s u : Value} {w : World} (hs : Sts w s l) (hu : Sts w u l) :
    Calls Tryd.prog 41 #[.agg #[.int .i64 num, s], .agg #[.int .i64 num, u]] w fun e w' => e = .returned (.bool true) ∧ Ext w w' := by
  have hE0 := ((Ext.refl w).alloc (.cells #[.int .i64 num, s] 56)).alloc (.cells #[.int .i64 num, u] 56)
  obtain ⟨a, cp, rfl, hlc, hcm, -⟩ := hs.form
  obtain ⟨a2, cp2, rfl, hlc2, hcm2, -⟩ := hu.form
  unfold maxLen at hcm hcm2
  have hS := Lib.hid (hs.ext hE0)
  have hU := Lib.hid (hu.ext hE0)
  clear hs hu
  go_enter Tryd.func41, Tryd.ntmps41
  go_wp2
  obtain ⟨w1, hw1⟩ : ∃ w1, (w.alloc (.cells #[.int .i64 num, .slice a l.length cp] 56)).alloc (.cells #[.int .i64 num, .slice a2 l.length cp2] 56) = w1 := ⟨_, rfl⟩
  have b2 : w1.cell? ⟨w.heap.size, 1, none⟩ = some (.slice a l.length cp) := by rw [← hw1]; simp
  have b3 : w1.cell? ⟨w.heap.size + 1, 1, none⟩ = some (.slice a2 l.length cp2) := by rw [← hw1]; simp
  rw [hw1] at hE0 hS hU ⊢
  clear hw1
  go_loopw [5] (fun iv wr => ∃ k : Nat, k ≤ l.length ∧ iv = .int .i64 k ∧ Ext w1 wr) (fun iv _ => l.length - (intOf iv).toNat)
  case atStart => exact ⟨0, Nat.zero_le _, rfl, Ext.refl _⟩
  case round =>
    obtain ⟨k, hk, rfl, hE⟩ := hrel
    have e2 := hE.cell b2
    have e3 := hE.cell b3
    by_cases hlt : k < l.length
    · obtain ⟨x, hx⟩ : ∃ x, l[k]? = some x := ⟨l[k], by simp [hlt]⟩
      obtain ⟨b, off, sv, rfl, hbb, c0, hc⟩ := (hS.out.ext hE).cell hx
      obtain ⟨b2, off2, su, rfl, hbb2, d0, hd⟩ := (hU.out.ext hE).cell hx
      obtain ⟨ca, ccp, rfl, -⟩ := hc.form
      obtain ⟨cb, dcp, rfl, -⟩ := hd.form
      have hC := Lib.hid hc
      have hD := Lib.hid hd
      clear hx hc hd hbb hbb2
      have hi0 : (0 : Int) ≤ (k : Int) := by omega
      have hi1 : (k : Int) < (l.length : Int) := by omega
      go_wp2
      have hSk : ∀ w' w'' : World, (w'.cell? ⟨w.heap.size, 1, none⟩ = some (.slice (some ⟨b, off, none⟩) l.length cp) ∧ w'.cell? ⟨w.heap.size + 1, 1, none⟩ = some (.slice (some ⟨b2, off2, none⟩) l.length cp2) ∧ w'.cell? ⟨b, off + k, none⟩ = some (.slice ca x.length ccp) ∧ w'.cell? ⟨b2, off2 + k, none⟩ = some (.slice cb x.length dcp) ∧ Ext wr w') → Ext w' w'' → (w''.cell? ⟨w.heap.size, 1, none⟩ = some (.slice (some ⟨b, off, none⟩) l.length cp) ∧ w''.cell? ⟨w.heap.size + 1, 1, none⟩ = some (.slice (some ⟨b2, off2, none⟩) l.length cp2) ∧ w''.cell? ⟨b, off + k, none⟩ = some (.slice ca x.length ccp) ∧ w''.cell? ⟨b2, off2 + k, none⟩ = some (.slice cb x.length dcp) ∧ Ext wr w'') := by
        rintro w' w'' ⟨k0, k1, k2, k3, kE⟩ h
        exact ⟨h.cell k0, h.cell k1, h.cell k2, h.cell k3, Ext.trans kE h⟩
      go_region_held3 (fun w' => (w'.cell? ⟨w.heap.size, 1, none⟩ = some (.slice (some ⟨b, off, none⟩) l.length cp) ∧ w'.cell? ⟨w.heap.size + 1, 1, none⟩ = some (.slice (some ⟨b2, off2, none⟩) l.length cp2) ∧ w'.cell? ⟨b, off + k, none⟩ = some (.slice ca x.length ccp) ∧ w'.cell? ⟨b2, off2 + k, none⟩ = some (.slice cb x.length dcp) ∧ Ext wr w')) (first | assumption | exact ⟨e2, e3, c0, d0, (Ext.refl _).drew⟩ | (refine hSk _ _ (by assumption) ?_; first | assumption | exact (Ext.refl _).alloc _ | exact ((Ext.refl _).alloc _).drew)) (first | (go_at_call 17; refine (ref28_Same_yes (hC.out.ext ?_) (hD.out.ext ?_)).mono ?_; (exact And.right (And.right (And.right (And.right (by assumption))))); (exact And.right (And.right (And.right (And.right (by assumption))))); rintro e wr0 ⟨rfl, hR0⟩))
      obtain ⟨g0, g1, g2, g3, hRR⟩ := (by assumption : (wr0.cell? ⟨w.heap.size, 1, none⟩ = some (.slice (some ⟨b, off, none⟩) l.length cp) ∧ wr0.cell? ⟨w.heap.size + 1, 1, none⟩ = some (.slice (some ⟨b2, off2, none⟩) l.length cp2) ∧ wr0.cell? ⟨b, off + k, none⟩ = some (.slice ca x.length ccp) ∧ wr0.cell? ⟨b2, off2 + k, none⟩ = some (.slice cb x.length dcp) ∧ Ext wr wr0))
      clear e2; have e2 := g0; clear g0
      clear e3; have e3 := g1; clear g1
      clear c0; have c0 := g2; clear g2
      clear d0; have d0 := g3; clear g3
      go_wp2
      go_roundw
      case rel => exact ⟨k + 1, by omega, by go_num, hE.trans hRR⟩
      case measure => simp [intOf]; omega
    · have hkl : k = l.length := by omega
      subst hkl
      go_wp2
      go_ret
      exact ⟨rfl, hE0.trans hE⟩

end Go.Proofs.YtjfkfibhgilolaaDoor
