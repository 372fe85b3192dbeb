/- Contracts: Great, Check and Same of the reference of layer 33, Check of the program. (printed by gen/stk33.py) -/
import Derived.Test.YtkbocenpkdaogaaDoorStkA
import Derived.LoopIn
import Derived.Deep.QuietTactic
import Derived.BigQuiet
import Derived.Deep.RegionHeld3
namespace Go.Proofs.YtkbocenpkdaogaaDoor
set_option maxRecDepth 100000
open Go.RowKit


theorem stkErr_bad {x : Stk} (h : okK x = false) : stkErr x = 8 := by simp [stkErr, h]
theorem stkErr_ok {x : Stk} (h : okK x = true) : stkErr x = 0 := by simp [stkErr, h]
theorem okK_cell {x : Stk} {k : Nat} {s : List Item} (hx : x.cells[k]? = some s) (hs : okS s = false) : okK x = false := by
  have : x.cells.all okS = false := all_miss hx hs
  simp [okK, this]

set_option maxHeartbeats 1600000 in
theorem stacks_Check {l : List (List Item)} {num : Int} {s : Value} {w : World} (hl : Sts w s l) :
    Calls Tryd.prog 34 #[.agg #[.int .i64 num, s]] w fun e w' => e = .returned (.int .i64 (stkErr ⟨num, l⟩)) ∧ Ext w w' := by
  have hE0 := (Ext.refl w).alloc (.cells #[.int .i64 num, s] 56)
  have hl0 := hl.ext hE0
  obtain ⟨a, cp, rfl, hlc, hcm, -⟩ := hl.form
  unfold maxLen at hcm
  have hW := Lib.hid hl0
  clear hl hl0
  have hcase : (okK ⟨num, l⟩ = false ∧ (decide (num < 0) = true ∨ (decide (num < 0) = false ∧ (decide (1000000 < num) = true ∨ (decide (1000000 < num) = false ∧ (((l.length : Int) == 0) = true ∨ (((l.length : Int) == 0) = false ∧ decide ((2 : Int) < (l.length : Int)) = true))))))) ∨ (decide (num < 0) = false ∧ decide (1000000 < num) = false ∧ ((l.length : Int) == 0) = false ∧ decide ((2 : Int) < (l.length : Int)) = false ∧ okK ⟨num, l⟩ = l.all okS) := by
    unfold okK inB
    simp only [decide_eq_true_eq, decide_eq_false_iff_not, beq_iff_eq, beq_eq_false_iff_ne]
    by_cases h : 0 ≤ num ∧ num ≤ 1000000 ∧ 1 ≤ l.length ∧ l.length ≤ 2
    · right
      refine ⟨by omega, by omega, by omega, by omega, ?_⟩
      simp [h.1, h.2.1, h.2.2.1, h.2.2.2]
    · left
      refine ⟨?_, by omega⟩
      by_cases h0 : 0 ≤ num
      · by_cases h1 : num ≤ 1000000
        · by_cases h2 : 1 ≤ l.length
          · have h3 : ¬ l.length ≤ 2 := fun h3 => h ⟨h0, h1, h2, h3⟩
            simp [h3]
          · simp [h2]
        · simp [h1]
      · simp [h0]
  rcases hcase with ⟨hbad, g1 | ⟨g1, g2 | ⟨g2, g3 | ⟨g3, g4⟩⟩⟩⟩ | ⟨g1, g2, g3, g4, hall⟩
  iterate 4
    · have hres := Lib.hid (stkErr_bad hbad)
      clear hbad
      go_enter Tryd.func34, Tryd.ntmps34
      go_wp2
      go_ret
      exact ⟨by rw [hres.out] <;> rfl, hE0⟩
  · have hall' := Lib.hid hall
    clear hall
    go_enter Tryd.func34, Tryd.ntmps34
    go_wp2
    obtain ⟨w1, hw1⟩ : ∃ w1, w.alloc (.cells #[.int .i64 num, .slice a l.length cp] 56) = w1 := ⟨_, rfl⟩
    have b2 : w1.cell? ⟨w.heap.size, 1, none⟩ = some (.slice a l.length cp) := by rw [← hw1]; simp
    rw [hw1] at hE0 hW ⊢
    clear hw1
    go_loopw [29] (fun iv wr => ∃ k : Nat, k ≤ l.length ∧ iv = .int .i64 k ∧ Ext w1 wr ∧ Hid ((l.take k).all okS = true)) (fun iv _ => l.length - (intOf iv).toNat)
    case atStart => exact ⟨0, Nat.zero_le _, rfl, Ext.refl _, by simp [Hid]⟩
    case round =>
      obtain ⟨k, hk, rfl, hE, hN⟩ := hrel
      have e2 := hE.cell b2
      by_cases hlt : k < l.length
      · obtain ⟨x, hx⟩ : ∃ x, l[k]? = some x := ⟨l[k], by simp [hlt]⟩
        obtain ⟨b, off, sv, rfl, hbb, d0, hcl⟩ := (hW.out.ext hE).cell hx
        have hX := Lib.hid hx
        obtain ⟨ca, ccp, rfl, -⟩ := hcl.form
        have hC := Lib.hid hcl
        clear hx hbb hcl
        cases hok : okS x
        · have hc : Hid (chk x = 8) := Hid.mk (by simp [chk, hok])
          have hres := Lib.hid (stkErr_bad (okK_cell (x := ⟨num, l⟩) hX.out hok))
          clear hok
          go_wp2_with fail
          refine (items_Check hC.out).mono ?_
          rintro e w2 ⟨rfl, hE2⟩
          rw [hc.out]
          go_wp2
          go_ret
          exact ⟨by rw [hres.out] <;> rfl, (hE0.trans hE).trans hE2⟩
        · have hc : Hid (chk x = 0) := Hid.mk (by simp [chk, hok])
          have hN2 := Lib.hid (all_take_succ hN.out hX.out hok)
          clear hok
          go_wp2_with fail
          refine (items_Check hC.out).mono ?_
          rintro e w2 ⟨rfl, hE2⟩
          rw [hc.out]
          go_wp2
          go_roundw
          case rel => exact ⟨k + 1, by omega, by go_num, hE.trans hE2, hN2.out⟩
          case measure => simp [intOf]; omega
      · have hkl : k = l.length := by omega
        subst hkl
        have hres : Hid (stkErr ⟨num, l⟩ = 0) := Hid.mk (stkErr_ok (by
          rw [hall'.out]
          have := hN.out
          rwa [List.take_length] at this))
        go_wp2
        go_ret
        exact ⟨by rw [hres.out] <;> rfl, hE0.trans hE⟩


set_option maxHeartbeats 800000 in
theorem ref33_Same {l : List (List Item)} {num : Int} {s u : Value} {w : World} (hs : Sts w s l) (hu : Sts w u l) :
    Calls Tryd.prog 36 #[.agg #[.int .i64 num, s], .agg #[.int .i64 num, u]] w fun e w' => e = .returned (.bool true) ∧ Ext w w' := by
  have hE0 := ((Ext.refl w).alloc (.cells #[.int .i64 num, s] 56)).alloc (.cells #[.int .i64 num, u] 56)
  obtain ⟨a, cp, rfl, hlc, hcm, -⟩ := hs.form
  obtain ⟨a2, cp2, rfl, hlc2, hcm2, -⟩ := hu.form
  unfold maxLen at hcm hcm2
  have hS := Lib.hid (hs.ext hE0)
  have hU := Lib.hid (hu.ext hE0)
  clear hs hu
  go_enter Tryd.func36, Tryd.ntmps36
  go_wp2
  obtain ⟨w1, hw1⟩ : ∃ w1, (w.alloc (.cells #[.int .i64 num, .slice a l.length cp] 56)).alloc (.cells #[.int .i64 num, .slice a2 l.length cp2] 56) = w1 := ⟨_, rfl⟩
  have b2 : w1.cell? ⟨w.heap.size, 1, none⟩ = some (.slice a l.length cp) := by rw [← hw1]; simp
  have b3 : w1.cell? ⟨w.heap.size + 1, 1, none⟩ = some (.slice a2 l.length cp2) := by rw [← hw1]; simp
  rw [hw1] at hE0 hS hU ⊢
  clear hw1
  go_loopw [5] (fun iv wr => ∃ k : Nat, k ≤ l.length ∧ iv = .int .i64 k ∧ Ext w1 wr) (fun iv _ => l.length - (intOf iv).toNat)
  case atStart => exact ⟨0, Nat.zero_le _, rfl, Ext.refl _⟩
  case round =>
    obtain ⟨k, hk, rfl, hE⟩ := hrel
    have e2 := hE.cell b2
    have e3 := hE.cell b3
    by_cases hlt : k < l.length
    · obtain ⟨x, hx⟩ : ∃ x, l[k]? = some x := ⟨l[k], by simp [hlt]⟩
      obtain ⟨b, off, sv, rfl, hbb, c0, hc⟩ := (hS.out.ext hE).cell hx
      obtain ⟨b2, off2, su, rfl, hbb2, d0, hd⟩ := (hU.out.ext hE).cell hx
      obtain ⟨ca, ccp, rfl, -⟩ := hc.form
      obtain ⟨cb, dcp, rfl, -⟩ := hd.form
      have hC := Lib.hid hc
      have hD := Lib.hid hd
      clear hx hc hd hbb hbb2
      have hi0 : (0 : Int) ≤ (k : Int) := by omega
      have hi1 : (k : Int) < (l.length : Int) := by omega
      go_wp2
      have hSk : ∀ w' w'' : World, (w'.cell? ⟨w.heap.size, 1, none⟩ = some (.slice (some ⟨b, off, none⟩) l.length cp) ∧ w'.cell? ⟨w.heap.size + 1, 1, none⟩ = some (.slice (some ⟨b2, off2, none⟩) l.length cp2) ∧ w'.cell? ⟨b, off + k, none⟩ = some (.slice ca x.length ccp) ∧ w'.cell? ⟨b2, off2 + k, none⟩ = some (.slice cb x.length dcp) ∧ Ext wr w') → Ext w' w'' → (w''.cell? ⟨w.heap.size, 1, none⟩ = some (.slice (some ⟨b, off, none⟩) l.length cp) ∧ w''.cell? ⟨w.heap.size + 1, 1, none⟩ = some (.slice (some ⟨b2, off2, none⟩) l.length cp2) ∧ w''.cell? ⟨b, off + k, none⟩ = some (.slice ca x.length ccp) ∧ w''.cell? ⟨b2, off2 + k, none⟩ = some (.slice cb x.length dcp) ∧ Ext wr w'') := by
        rintro w' w'' ⟨k0, k1, k2, k3, kE⟩ h
        exact ⟨h.cell k0, h.cell k1, h.cell k2, h.cell k3, Ext.trans kE h⟩
      go_region_held3 (fun w' => (w'.cell? ⟨w.heap.size, 1, none⟩ = some (.slice (some ⟨b, off, none⟩) l.length cp) ∧ w'.cell? ⟨w.heap.size + 1, 1, none⟩ = some (.slice (some ⟨b2, off2, none⟩) l.length cp2) ∧ w'.cell? ⟨b, off + k, none⟩ = some (.slice ca x.length ccp) ∧ w'.cell? ⟨b2, off2 + k, none⟩ = some (.slice cb x.length dcp) ∧ Ext wr w')) (first | assumption | exact ⟨e2, e3, c0, d0, (Ext.refl _).drew⟩ | (refine hSk _ _ (by assumption) ?_; first | assumption | exact (Ext.refl _).alloc _ | exact ((Ext.refl _).alloc _).drew)) (first | (go_at_call 12; refine (ref28_Same_yes (hC.out.ext ?_) (hD.out.ext ?_)).mono ?_; (exact And.right (And.right (And.right (And.right (by assumption))))); (exact And.right (And.right (And.right (And.right (by assumption))))); rintro e wr0 ⟨rfl, hR0⟩))
      obtain ⟨g0, g1, g2, g3, hRR⟩ := (by assumption : (wr0.cell? ⟨w.heap.size, 1, none⟩ = some (.slice (some ⟨b, off, none⟩) l.length cp) ∧ wr0.cell? ⟨w.heap.size + 1, 1, none⟩ = some (.slice (some ⟨b2, off2, none⟩) l.length cp2) ∧ wr0.cell? ⟨b, off + k, none⟩ = some (.slice ca x.length ccp) ∧ wr0.cell? ⟨b2, off2 + k, none⟩ = some (.slice cb x.length dcp) ∧ Ext wr wr0))
      clear e2; have e2 := g0; clear g0
      clear e3; have e3 := g1; clear g1
      clear c0; have c0 := g2; clear g2
      clear d0; have d0 := g3; clear g3
      go_wp2
      go_roundw
      case rel => exact ⟨k + 1, by omega, by go_num, hE.trans hRR⟩
      case measure => simp [intOf]; omega
    · have hkl : k = l.length := by omega
      subst hkl
      go_wp2
      go_ret
      exact ⟨rfl, hE0.trans hE⟩

end Go.Proofs.YtkbocenpkdaogaaDoor
